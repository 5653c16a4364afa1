/-
 Models of functions of the program,and that they return what the models say.
-/
import Derived.Test.YtfkilljboodoaaaGreatLawG
set_option maxRecDepth 100000
set_option linter.unusedVariables false
set_option linter.unusedSimpArgs false
namespace Go.Proofs.YtfkilljboodoaaaGreat
open Go.RowKit
noncomputable section
structure Gj where
 G6:G6
 Whole:Int
 Half:Int
 deriving DecidableEq,Inhabited
def Gj.cs (x:Gj):List AV:=[G1 x.G6.Load,G1 x.G6.Discharge,G1 x.Whole,G1 x.Half]
def Gj.av (x:Gj):AV:=.agg x.cs
abbrev Ei (x:Gj):AV:=.dptr (Gj.cs x)
abbrev E9:=LS 4 Gj.av
namespace XDF
open XAF
open XLF
open XBF
theorem tq_81 (a b:G2):H4f Tryz.prog 4 81 [.int .i64 a.G6.Load,.int .i64 a.G6.Discharge,.int .i64 a.Whole,.int .i64 a.Half] [.int .i64 b.G6.Load,.int .i64 b.G6.Discharge,.int .i64 b.Whole,.int .i64 b.Half]=some (decide (a=b)):=by
 refine(show _=some (((a.G6.Load==b.G6.Load)&&((a.G6.Discharge==b.G6.Discharge)&&true))&&((a.Whole==b.Whole)&&((a.Half==b.Half)&&true))) by kernel_rfl).trans (congrArg some ?_)
 rw [Bool.eq_iff_iff]
 simp only [Bool.and_eq_true,beq_iff_eq,decide_eq_true_eq,Bool.and_true]
 constructor
 ·intro h; obtain⟨⟨_,_⟩,_,_⟩:=a; obtain⟨⟨_,_⟩,_,_⟩:=b; simp_all
 ·intro h; subst h; simp
theorem Gf5:Gc2 Tryz.prog 82 4=true:=by kernel_rfl
theorem Je8:G11 Tryz.prog 81=true:=by kernel_rfl
theorem G48:Hn Tryz.prog 105=true:=by kernel_rfl
theorem J32:Hn Tryz.prog 106=true:=by kernel_rfl
theorem J31:Hn Tryz.prog 108=true:=by kernel_rfl
theorem J30:Hn Tryz.prog 109=true:=by kernel_rfl
theorem J2f:Hn Tryz.prog 110=true:=by kernel_rfl
theorem J2d:Hn Tryz.prog 114=true:=by kernel_rfl
theorem J2c:Hn Tryz.prog 115=true:=by kernel_rfl
theorem Je4:Hn Tryz.prog 117=true:=by kernel_rfl
theorem Je3:Hn Tryz.prog 118=true:=by kernel_rfl
theorem Je2:Hn Tryz.prog 119=true:=by kernel_rfl
theorem Q10:Hn Tryz.prog 12=true:=by kernel_rfl
theorem Je1:Hn Tryz.prog 120=true:=by kernel_rfl
theorem Je0:Hn Tryz.prog 121=true:=by kernel_rfl
theorem Jdf:Hn Tryz.prog 122=true:=by kernel_rfl
theorem Q0f:Hn Tryz.prog 13=true:=by kernel_rfl
theorem Yw:Hn Tryz.prog 157=true:=by kernel_rfl
theorem Jda:Hn Tryz.prog 158=true:=by kernel_rfl
theorem Jd9:Hn Tryz.prog 159=true:=by kernel_rfl
theorem Q0d:Hn Tryz.prog 18=true:=by kernel_rfl
theorem Jc9:Hn Tryz.prog 225=true:=by kernel_rfl
theorem J24:Hn Tryz.prog 226=true:=by kernel_rfl
theorem J23:Hn Tryz.prog 227=true:=by kernel_rfl
theorem Jc8:Hn Tryz.prog 228=true:=by kernel_rfl
theorem Q0c:Hn Tryz.prog 26=true:=by kernel_rfl
theorem Q0b:Hn Tryz.prog 27=true:=by kernel_rfl
theorem Q0a:Hn Tryz.prog 34=true:=by kernel_rfl
theorem J79:Hn Tryz.prog 35=true:=by kernel_rfl
theorem Q09:Hn Tryz.prog 36=true:=by kernel_rfl
theorem Q08:Hn Tryz.prog 38=true:=by kernel_rfl
theorem J78:Hn Tryz.prog 40=true:=by kernel_rfl
theorem J77:Hn Tryz.prog 41=true:=by kernel_rfl
theorem Q07:Hn Tryz.prog 42=true:=by kernel_rfl
theorem J76:Hn Tryz.prog 43=true:=by kernel_rfl
theorem Q06:Hn Tryz.prog 44=true:=by kernel_rfl
theorem Gfd:Hn Tryz.prog 45=true:=by kernel_rfl
theorem Q05:Hn Tryz.prog 46=true:=by kernel_rfl
theorem Q04:Hn Tryz.prog 47=true:=by kernel_rfl
theorem Q03:Hn Tryz.prog 48=true:=by kernel_rfl
theorem J73:Hn Tryz.prog 75=true:=by kernel_rfl
theorem G95:Hn Tryz.prog 98=true:=by kernel_rfl
theorem Jf7:Zp Tryz.prog 75 1 24=true:=by kernel_rfl
theorem J71:Zp Tryz.prog 82 4 32=true:=by kernel_rfl
theorem tf_eqg_81:Tryz.prog.eqGuardType Tryz.prog.depth 81=false:=by kernel_rfl
theorem Hc1:Q1 Tryz.prog 82 0 0=true:=by kernel_rfl
theorem G7b:Q1 Tryz.prog 82 1 2=true:=by kernel_rfl
theorem G7a:Q1 Tryz.prog 82 2 3=true:=by kernel_rfl
theorem Ge6:placesOf Tryz.prog 82=some [(0,2),(2,1),(3,1)]:=by kernel_rfl
theorem Jbb:Z6 Tryz.prog 75=true:=by kernel_rfl
theorem Gfa:Zb Tryz.prog 82 4=true:=by kernel_rfl
theorem Jf2:Zb Tryz.prog 88 1=true:=by kernel_rfl
theorem Ge5:sliceB Tryz.prog 195 75 1=true:=by kernel_rfl
theorem Yi:sliceB Tryz.prog 77 82 4=true:=by kernel_rfl
theorem Jf1:(Tryz.prog.info? 81).bind (fun i=>i.zero.map Value.cells)=some (List.toArray [.int .i64 0,.int .i64 0,.int .i64 0,.int .i64 0]):=by kernel_rfl
theorem Gba:(Tryz.prog.info? 82).bind (fun i=>i.zero.map Value.cells)=some (List.toArray [.int .i64 0,.int .i64 0,.int .i64 0,.int .i64 0]):=by kernel_rfl
theorem Jf0:(Tryz.prog.info? 88).bind (fun i=>i.zero.map Value.cells)=some (List.toArray [.slice none 0 0]):=by kernel_rfl
theorem Jc2:Zd Tryz.prog 32 13=true:=by kernel_rfl
theorem Jc0:Zd Tryz.prog 75 1=true:=by kernel_rfl
theorem Gc8:Zd Tryz.prog 82 4=true:=by kernel_rfl
end XDF
open XAF
open XLF
open XBF
open XDF

def G03 (s:J0) (boxes:List H4) (families:List (List G6)):Option Bool:=
 bif ((((decide (20 < (s.Columns.length:Int)))||(decide (20 < (s.Covers.length:Int))))||(decide (12 < (boxes.length:Int))))||(decide (6 < (families.length:Int)))) then
 (some false)
 else
 (each (fun y21 i21 (s21:Unit) nx21=>
   bif decide (12 < (y21.Plugs.length:Int)) then
   (some false)
   else
   (nx21 ()))
  (fun(s21:Unit)=>
   each (fun y44 i44 (s44:Unit) nx44=>
    bif decide (40 < (y44.Rows.length:Int)) then
    (some false)
    else
    (nx44 ()))
   (fun(s44:Unit)=>
    each (fun y67 i67 (s67:Unit) nx67=>
     bif decide (8 < (y67.length:Int)) then
     (some false)
     else
     (nx67 ()))
    (fun(s67:Unit)=>
     some true) families 0 ()) s.Covers 0 ()) s.Columns 0 ())
theorem H79 (s:J0) (boxes:List H4) (families:List (List G6)) (r:Bool) (h:G03 s boxes families=some r):Pure Tryz.prog 34 [.agg (J0.cs s),E2 boxes,LS 1 (E1) families] (·=BL r):=by
 unfold G03 at h
 refine H1 [.tmp 6] Tryz.func34 G G (G5 fun K1 hK1=>G3 (JLh (.ptr 1013 0) (Qi (u:=.agg (J0.cs s)) (cs:=(J0.cs s)) 1013 G G G G G) G (JLh (BL false) (G8 G G) G (G9 (hK1 _ _ ?_)))))
 refine Gz [(1,E2 boxes),(2,LS 1 (E1) families),(3,Ed s)] [] 1013 rfl rfl rfl ø rfl (by exact⟨.conv (.same rfl),.conv (.same rfl),.ptr,ø⟩) (G5 (fun K2 hK2=>G5 fun K3 hK3=>G3 (JLh (Ed s) (Ge Hw G G G) G (JLh (E5 s.Columns) (Gk J8 G G G) G ?_))))
 refine H0 (f:=Ga.av) (xs:=s.Columns) Hb G G (fun hm15=>?_) G G G
 refine JLh (BL (decide (20 < (s.Columns.length:Int)))) (Ya G G G) G (JLh (BL (decide (20 < (s.Columns.length:Int)))) (G4 G G) G (Gd (u:=.dptr [E4 s.Covers,G1 s.Light.Kilos,G1 s.Light.X,G1 s.Light.Y,G1 s.Light.Z,E7 s.Rows,E6 s.Frames,E8 s.Tanks,G1 s.G7.Tolerance,G1 s.G7.Trim,G1 s.G7.List_,G1 s.G7.Stability]) [] G G G .scf ø (fun hc=>Ge Qs G G G) ?_))
 refine Gd (u:=E4 s.Covers) [(18,.dptr [E4 s.Covers,G1 s.Light.Kilos,G1 s.Light.X,G1 s.Light.Y,G1 s.Light.Z,E7 s.Rows,E6 s.Frames,E8 s.Tanks,G1 s.G7.Tolerance,G1 s.G7.Trim,G1 s.G7.List_,G1 s.G7.Stability])] G G G .scf ⟨.all id,ø⟩ (fun hc=>Gk Rw G G G) ?_
 refine Gd (u:=En s.Covers.length) [(19,E4 s.Covers)] G G G .scf ⟨.all id,ø⟩ (fun hc=>Jp (f:=Gm.av) (xs:=s.Covers) J2 G G) ?_
 refine Gd (u:=BL (decide (20 < (s.Covers.length:Int)))) [(20,En s.Covers.length)] G G G .scf ⟨.all id,ø⟩ (fun hc=>Ya G G G) ?_
 refine JLh (BL ((decide (20 < (s.Columns.length:Int)))||(decide (20 < (s.Covers.length:Int))))) (Z5 G G G G) G (JLh (BL ((decide (20 < (s.Columns.length:Int)))||(decide (20 < (s.Covers.length:Int))))) (G4 G G) G (Gd (u:=E2 boxes) [] G G G .scf ø (fun hc=>G4 G G) ?_))
 refine Gd (u:=En boxes.length) [(24,E2 boxes)] G G G .scf ⟨.all id,ø⟩ (fun hc=>Jp (f:=H4.av) (xs:=boxes) Ht G G) ?_
 refine Gd (u:=BL (decide (12 < (boxes.length:Int)))) [(25,En boxes.length)] G G G .scf ⟨.all id,ø⟩ (fun hc=>Ya G G G) ?_
 refine JLh (BL (((decide (20 < (s.Columns.length:Int)))||(decide (20 < (s.Covers.length:Int))))||(decide (12 < (boxes.length:Int))))) (Z5 G G G G) G (JLh (BL (((decide (20 < (s.Columns.length:Int)))||(decide (20 < (s.Covers.length:Int))))||(decide (12 < (boxes.length:Int))))) (G4 G G) G (Gd (u:=LS 1 (E1) families) [] G G G .scf ø (fun hc=>G4 G G) ?_))
 refine Gd (u:=En families.length) [(29,LS 1 (E1) families)] G G G .scf ⟨.all id,ø⟩ (fun hc=>Jp (f:=(E1)) (xs:=families) J1 G G) ?_
 refine Gd (u:=BL (decide (6 < (families.length:Int)))) [(30,En families.length)] G G G .scf ⟨.all id,ø⟩ (fun hc=>Ya G G G) ?_
 refine JLh (BL ((((decide (20 < (s.Columns.length:Int)))||(decide (20 < (s.Covers.length:Int))))||(decide (12 < (boxes.length:Int))))||(decide (6 < (families.length:Int))))) (Z5 G G G G) G (G9 (hK3 _ _ (Gp G (fun hb=>?_) (fun hb=>?_))))
 ·
  replace h:=Gy hb h
  refine G5 fun K4 hK4=>G3 (JLh (BL false) (G8 G G) G (G9 (hK4 _ _ (Gx (⟨[BL false],[],ø,G,⟨⟨_,G,.conv (.same G)⟩,ø⟩,G,congrArg (fun r:Bool=>(BL r:AV)) (Option.some.inj h)⟩)))))
 ·
  replace h:=Hp hb h
  refine Gq (hK2 _ _ (G5 (fun K5 hK5=>G5 fun K6 hK6=>G3 (JLh (Ed s) (Ge Hw G G G) G (JLh (E5 s.Columns) (Gk J8 G G G) G (H0 (f:=Ga.av) (xs:=s.Columns) Hb G G (fun hm35=>?_) G G G))))))
  refine JLh (G1 0) (G4 G G) G (G9 (hK6 _ _ (Gn ?_)))
  obtain⟨b21,kx21,hb21,hkx21,h⟩:=J9 h
  refine H7 (fun i21 (s21:Unit)=>each b21 kx21 (List.drop i21 s.Columns) i21 s21=some r) (fun i21 s21=>[(2,LS 1 (E1) families),(3,Ed s),(34,E5 s.Columns),(35,En s.Columns.length),(36,En i21)]) (fun i21 s21=>[]) (fun i21=>s.Columns.length - i21) 0 () h ⟨(by repeat' constructor),ø,rfl⟩ ?_
  clear h
  intro i21 s21 hi21 K21 e21
  refine G5 fun K22 hK22=>G3 (JLh (BL (decide ((i21:Int) < (s.Columns.length:Int)))) (Hx G G G) G (G9 (hK22 _ _ (G5 (fun K23 hK23=>Gp G (fun hb=>?_) (fun hb=>?_))))))
  ·
   have hk21:=Jm hb
   obtain⟨y21,nx21,hy21,hn21,h⟩:=Hy hi21 hk21
   replace h:=Zn hb21 h
   refine Gq (hK23 _ _ (G5 (fun K24 hK24=>Gn (G5 fun K25 hK25=>G3 (JLh (Ef y21) (Gv (f:=Ga.av) (xs:=s.Columns) (y:=y21) G G G Hb hy21 G) G (JLh (.agg (Ga.cs y21)) (Gi Y6 G G G) G (JLh (.ptr 1014 0) (Jn 1014 12 G4a G G) G (Jb (u:=.junk) (J4 (u:=.agg (Ga.cs y21)) (ds:=(Ga.cs y21)) G99 G G G G G G G G) (G9 (hK25 _ _ ?_))))))))))
   refine Gz [(2,LS 1 (E1) families),(3,Ed s),(8,Ef y21),(34,E5 s.Columns),(35,En s.Columns.length),(36,En i21)] [] 1014 rfl rfl rfl ø rfl (by repeat' (first | exact .ptr | constructor)) (G5 fun K26 hK26=>G3 (JLh (.dptr ((Ga.cs y21).drop 8)) (Ge Qo G G G) G (JLh (E0 y21.Plugs) (Gk Hv G G G) G (H0 (f:=G1) (xs:=y21.Plugs) Gt G G (fun hm42=>?_) G G G))))
   refine JLh (BL (decide (12 < (y21.Plugs.length:Int)))) (Ya G G G) G (G9 (hK26 _ _ (Gp G (fun hb=>?_) (fun hb=>?_))))
   ·
    replace h:=Gy hb h
    refine G5 fun K27 hK27=>G3 (JLh (BL false) (G8 G G) G (G9 (hK27 _ _ (Gx (⟨[BL false],[],ø,G,⟨⟨_,G,.conv (.same G)⟩,ø⟩,G,congrArg (fun r:Bool=>(BL r:AV)) (Option.some.inj h)⟩)))))
   ·
    replace h:=Hp hb h
    refine Gq (hK24 _ _ (G3 (JLh (G1 ((i21+1:Nat):Int)) (Hj (Hi hk21 hm35) G G G) G (JLh (G1 ((i21+1:Nat):Int)) (G4 G G) G (G9 (e21 _ _ (i21+1) () (app1 hn21 h) (by omega) ⟨(by repeat' constructor),ø,rfl⟩))))))
  ·
   have h:=app1 hkx21 (Hz hi21 (Hg hb))
   refine Hc (hK5 _ _ (G5 (fun K28 hK28=>G5 fun K29 hK29=>G3 (JLh (.dptr [E4 s.Covers,G1 s.Light.Kilos,G1 s.Light.X,G1 s.Light.Y,G1 s.Light.Z,E7 s.Rows,E6 s.Frames,E8 s.Tanks,G1 s.G7.Tolerance,G1 s.G7.Trim,G1 s.G7.List_,G1 s.G7.Stability]) (Ge Qs G G G) G (JLh (E4 s.Covers) (Gk Rw G G G) G (H0 (f:=Gm.av) (xs:=s.Covers) J2 G G (fun hm47=>?_) G G G))))))
   refine JLh (G1 0) (G4 G G) G (G9 (hK29 _ _ (Gn ?_)))
   obtain⟨b44,kx44,hb44,hkx44,h⟩:=J9 h
   refine H7 (fun i44 (s44:Unit)=>each b44 kx44 (List.drop i44 s.Covers) i44 s44=some r) (fun i44 s44=>[(2,LS 1 (E1) families),(46,E4 s.Covers),(47,En s.Covers.length),(48,En i44)]) (fun i44 s44=>[]) (fun i44=>s.Covers.length - i44) 0 () h ⟨(by repeat' constructor),ø,rfl⟩ ?_
   clear h
   intro i44 s44 hi44 K44 e44
   refine G5 fun K45 hK45=>G3 (JLh (BL (decide ((i44:Int) < (s.Covers.length:Int)))) (Hx G G G) G (G9 (hK45 _ _ (G5 (fun K46 hK46=>Gp G (fun hb=>?_) (fun hb=>?_))))))
   ·
    have hk44:=Jm hb
    obtain⟨y44,nx44,hy44,hn44,h⟩:=Hy hi44 hk44
    replace h:=Zn hb44 h
    refine Gq (hK46 _ _ (G5 (fun K47 hK47=>Gn (G5 fun K48 hK48=>G3 (JLh (.dptr [G1 y44.Bay,E0 y44.Rows]) (Gv (f:=Gm.av) (xs:=s.Covers) (y:=y44) G G G J2 hy44 G) G (JLh (.agg [G1 y44.Bay,E0 y44.Rows]) (Gi Yv G G G) G (JLh (.ptr 1015 0) (Jn 1015 2 G67 G G) G (Jb (u:=.junk) (J4 (u:=.agg [G1 y44.Bay,E0 y44.Rows]) (ds:=[G1 y44.Bay,E0 y44.Rows]) G98 G G G G G G G G) (G9 (hK48 _ _ (Gz [(2,LS 1 (E1) families),(10,.dptr [G1 y44.Bay,E0 y44.Rows]),(46,E4 s.Covers),(47,En s.Covers.length),(48,En i44)] [] 1015 rfl rfl rfl ø rfl (by repeat' (first | exact .ptr | constructor)) ?_)))))))))))
    refine G5 fun K49 hK49=>G3 (JLh (.dptr [E0 y44.Rows]) (Ge Jz G G G) G (JLh (E0 y44.Rows) (Gk Hv G G G) G (H0 (f:=G1) (xs:=y44.Rows) Gt G G (fun hm54=>?_) G G G)))
    refine JLh (BL (decide (40 < (y44.Rows.length:Int)))) (Ya G G G) G (G9 (hK49 _ _ (Gp G (fun hb=>?_) (fun hb=>?_))))
    ·
     replace h:=Gy hb h
     refine G5 fun K50 hK50=>G3 (JLh (BL false) (G8 G G) G (G9 (hK50 _ _ (Gx (⟨[BL false],[],ø,G,⟨⟨_,G,.conv (.same G)⟩,ø⟩,G,congrArg (fun r:Bool=>(BL r:AV)) (Option.some.inj h)⟩)))))
    ·
     replace h:=Hp hb h
     refine Gq (hK47 _ _ (G3 (JLh (G1 ((i44+1:Nat):Int)) (Hj (Hi hk44 hm47) G G G) G (JLh (G1 ((i44+1:Nat):Int)) (G4 G G) G (G9 (e44 _ _ (i44+1) () (app1 hn44 h) (by omega) ⟨(by repeat' constructor),ø,rfl⟩))))))
   ·
    have h:=app1 hkx44 (Hz hi44 (Hg hb))
    refine Hc (hK28 _ _ (G5 (fun K51 hK51=>G5 fun K52 hK52=>G3 (JLh (LS 1 (E1) families) (G4 G G) G (H0 (f:=(E1)) (xs:=families) J1 G G (fun hm58=>?_) G G G)))))
    refine JLh (G1 0) (G4 G G) G (G9 (hK52 _ _ (Gn ?_)))
    obtain⟨b67,kx67,hb67,hkx67,h⟩:=J9 h
    refine H7 (fun i67 (s67:Unit)=>each b67 kx67 (List.drop i67 families) i67 s67=some r) (fun i67 s67=>[(57,LS 1 (E1) families),(58,En families.length),(59,En i67)]) (fun i67 s67=>[]) (fun i67=>families.length - i67) 0 () h ⟨⟨.same G,.same G,.same G,ø⟩,ø,G⟩ ?_
    clear h
    intro i67 s67 hi67 K67 e67
    refine G5 fun K68 hK68=>G3 (JLh (BL (decide ((i67:Int) < (families.length:Int)))) (Hx G G G) G (G9 (hK68 _ _ (G5 (fun K69 hK69=>Gp G (fun hb=>?_) (fun hb=>?_))))))
    ·
     have hk67:=Jm hb
     obtain⟨y67,nx67,hy67,hn67,h⟩:=Hy hi67 hk67
     replace h:=Zn hb67 h
     refine Gq (hK69 _ _ (G5 (fun K70 hK70=>Gn (G5 fun K71 hK71=>G3 (JLh (.dptr [E1 y67]) (Gv (f:=(E1)) (xs:=families) (y:=y67) G G G J1 hy67 G) G (JLh (E1 y67) (Gk Rv G G G) G (JLh (E1 y67) (G8 G G) G (G9 (hK71 _ _ (G5 fun K72 hK72=>G3 (JLh (E1 y67) (G4 G G) G (H0 (f:=G6.av) (xs:=y67) Ha G G (fun hm64=>?_) G G G))))))))))))
     refine JLh (BL (decide (8 < (y67.length:Int)))) (Ya G G G) G (G9 (hK72 _ _ (Gp G (fun hb=>?_) (fun hb=>?_))))
     ·
      replace h:=Gy hb h
      refine G5 fun K73 hK73=>G3 (JLh (BL false) (G8 G G) G (G9 (hK73 _ _ (Gx (⟨[BL false],[],ø,G,⟨⟨_,G,.conv (.same G)⟩,ø⟩,G,congrArg (fun r:Bool=>(BL r:AV)) (Option.some.inj h)⟩)))))
     ·
      replace h:=Hp hb h
      refine Gq (hK70 _ _ (G3 (JLh (G1 ((i67+1:Nat):Int)) (Hj (Hi hk67 hm58) G G G) G (JLh (G1 ((i67+1:Nat):Int)) (G4 G G) G (G9 (e67 _ _ (i67+1) () (app1 hn67 h) (by omega) ⟨⟨.same rfl,.same rfl,.same rfl,ø⟩,ø,rfl⟩))))))
    ·
     have h:=app1 hkx67 (Hz hi67 (Hg hb))
     refine Hc (hK51 _ _ (G5 fun K74 hK74=>G3 (JLh (BL true) (G8 G G) G (G9 (hK74 _ _ (Gx (⟨[BL true],[],ø,G,⟨⟨_,G,.conv (.same G)⟩,ø⟩,G,congrArg (fun r:Bool=>(BL r:AV)) (Option.some.inj h)⟩)))))))

def Q9 (columns:Int):Option J0:=
 need (decide (columns≤9223372036854775807)) <|
 upto (fun i21 (s21:(List Ga)×(List Gm)×Int×Int×Int×Int×(List Row)×(List Frame)×(List Gw)×Int×Int×Int×Int) nx21=>
  need (decide ((s21.1.length+[(Ga.mk 0 (i21:Int) false 2 0 0 0 0 [] 0 0 0)].length)*112≤140737488355328∧s21.1.length+[(Ga.mk 0 (i21:Int) false 2 0 0 0 0 [] 0 0 0)].length≤maxLen)) <|
  nx21 ((s21.1++[(Ga.mk 0 (i21:Int) false 2 0 0 0 0 [] 0 0 0)]),s21.2.1,s21.2.2.1,s21.2.2.2.1,s21.2.2.2.2.1,s21.2.2.2.2.2.1,s21.2.2.2.2.2.2.1,s21.2.2.2.2.2.2.2.1,s21.2.2.2.2.2.2.2.2.1,s21.2.2.2.2.2.2.2.2.2.1,s21.2.2.2.2.2.2.2.2.2.2.1,s21.2.2.2.2.2.2.2.2.2.2.2.1,s21.2.2.2.2.2.2.2.2.2.2.2.2))
 (fun(s21:(List Ga)×(List Gm)×Int×Int×Int×Int×(List Row)×(List Frame)×(List Gw)×Int×Int×Int×Int)=>
  some (J0.mk s21.1 s21.2.1 (Light.mk s21.2.2.1 s21.2.2.2.1 s21.2.2.2.2.1 s21.2.2.2.2.2.1) s21.2.2.2.2.2.2.1 s21.2.2.2.2.2.2.2.1 s21.2.2.2.2.2.2.2.2.1 (G7.mk s21.2.2.2.2.2.2.2.2.2.1 s21.2.2.2.2.2.2.2.2.2.2.1 s21.2.2.2.2.2.2.2.2.2.2.2.1 s21.2.2.2.2.2.2.2.2.2.2.2.2))) columns.toNat 0 ([],[],0,0,0,0,[],[],[],0,0,0,0)
theorem Qt (columns:Int) (r:J0) (h:Q9 columns=some r):Pure Tryz.prog 98 [G1 columns] (·=.agg (J0.cs r)):=by
 unfold Q9 at h
 refine H1 [.cell 2 32] Tryz.func98 G G (G5 fun K1 hK1=>G3 (JLh (.ptr 1067 0) (G15 1067 [E5 ([]:List Ga),E4 ([]:List Gm),G1 0,G1 0,G1 0,G1 0,E7 ([]:List Row),E6 ([]:List Frame),E8 ([]:List Gw),G1 0,G1 0,G1 0,G1 0] [.slice none 0 0,.slice none 0 0,.int .i64 0,.int .i64 0,.int .i64 0,.int .i64 0,.slice none 0 0,.slice none 0 0,.slice none 0 0,.int .i64 0,.int .i64 0,.int .i64 0,.int .i64 0] Hc4 ⟨.inr ⟨_,G,G⟩,.inr ⟨_,G,G⟩,.inl G,.inl G,.inl G,.inl G,.inr ⟨_,G,G⟩,.inr ⟨_,G,G⟩,.inr ⟨_,G,G⟩,.inl G,.inl G,.inl G,.inl G,ø⟩ G G) G (G9 (hK1 _ _ ?_))))
 refine G5 fun K2 hK2=>G3 (JLh (.ptr 1068 0) (G15 1068 [.sc (.slice none 0 0),E4 ([]:List Gm),G1 0,G1 0,G1 0,G1 0,E7 ([]:List Row),E6 ([]:List Frame),E8 ([]:List Gw),G1 0,G1 0,G1 0,G1 0] [.slice none 0 0,.slice none 0 0,.int .i64 0,.int .i64 0,.int .i64 0,.int .i64 0,.slice none 0 0,.slice none 0 0,.slice none 0 0,.int .i64 0,.int .i64 0,.int .i64 0,.int .i64 0] Hc4 ⟨.inl G,.inr ⟨_,G,G⟩,.inl G,.inl G,.inl G,.inl G,.inr ⟨_,G,G⟩,.inr ⟨_,G,G⟩,.inr ⟨_,G,G⟩,.inl G,.inl G,.inl G,.inl G,ø⟩ G G) G ?_)
 refine Ja4 1068 0 1069 112 12 G G G (cs':=[OW 1069 12 Ga.av ([]:List Ga),E4 ([]:List Gm),G1 0,G1 0,G1 0,G1 0,E7 ([]:List Row),E6 ([]:List Frame),E8 ([]:List Gw),G1 0,G1 0,G1 0,G1 0]) G (G9 (hK2 _ _ (G5 (fun K3 hK3=>G5 fun K4 hK4=>G3 (JLh (G1 columns) (G4 G G) G (JLh (G1 0) (G4 G G) G (G9 (hK4 _ _ (Gn ?_)))))))))
 obtain⟨hx21,h⟩:=Hr h
 obtain⟨b21,kx21,hb21,hkx21,h⟩:=G59 h
 refine H7 (fun i21 (s21:(List Ga)×(List Gm)×Int×Int×Int×Int×(List Row)×(List Frame)×(List Gw)×Int×Int×Int×Int)=>upto b21 kx21 (columns.toNat - i21) i21 s21=some r) (fun i21 s21=>[(2,.ptr 1067 0),(3,.ptr 1068 0),(5,G1 columns),(6,En i21)]) (fun i21 s21=>[(1069,.spare 112 12 s21.1.length s21.1.length),(1067,.box 32 [E5 ([]:List Ga),E4 ([]:List Gm),G1 0,G1 0,G1 0,G1 0,E7 ([]:List Row),E6 ([]:List Frame),E8 ([]:List Gw),G1 0,G1 0,G1 0,G1 0]),(1068,.box 32 [OW 1069 12 Ga.av s21.1,E4 s21.2.1,G1 s21.2.2.1,G1 s21.2.2.2.1,G1 s21.2.2.2.2.1,G1 s21.2.2.2.2.2.1,E7 s21.2.2.2.2.2.2.1,E6 s21.2.2.2.2.2.2.2.1,E8 s21.2.2.2.2.2.2.2.2.1,G1 s21.2.2.2.2.2.2.2.2.2.1,G1 s21.2.2.2.2.2.2.2.2.2.2.1,G1 s21.2.2.2.2.2.2.2.2.2.2.2.1,G1 s21.2.2.2.2.2.2.2.2.2.2.2.2])]) (fun i21=>columns.toNat - i21) 0 ([],[],0,0,0,0,[],[],[],0,0,0,0) h ⟨(by repeat' constructor),⟨⟨_,rfl,.same⟩,⟨_,rfl,.boxL rfl (by repeat' constructor)⟩,⟨_,rfl,.boxL rfl (by repeat' constructor)⟩,ø⟩,rfl⟩ ?_
 clear h
 intro i21 s21 hi21 K21 e21
 refine G5 fun K22 hK22=>G3 (JLh (BL (decide ((i21:Int) < columns))) (Hx G G G) G (G9 (hK22 _ _ (G5 (fun K23 hK23=>Gp G (fun hb=>?_) (fun hb=>?_))))))
 ·
  have hk21:=G33 hb
  obtain⟨nx21,hn21,h⟩:=G2f hi21 hk21
  replace h:=H82 hb21 h
  refine Gq (hK23 _ _ (G5 (fun K24 hK24=>Gn (G5 fun K25 hK25=>G3 (JLh (En i21) (G4 G G) G (JLh (En i21) (G8 G G) G (G9 (hK25 _ _ (G3 ?_)))))))))
  refine JLh (.ptr 1068 0) (Qr Hw G G) G (JLh (OW 1069 12 Ga.av s21.1) (G35 J8 G G G G) G (JLh (En i21) (G4 G G) G (JLh (.agg [G1 0,En i21,BL false,G1 2,G1 0,G1 0,G1 0,G1 0,E0 ([]:List Int),G1 0,G1 0,G1 0]) (Q0 (cs:=[G1 0,En i21,BL false,G1 2,G1 0,G1 0,G1 0,G1 0,E0 ([]:List Int),G1 0,G1 0,G1 0]) [(0,1),(1,1),(2,1),(3,1),(4,1),(5,1),(6,1),(7,1),(8,1),(9,1),(10,1),(11,1)] [G1 0,G1 0,BL false,G1 0,G1 0,G1 0,G1 0,G1 0,E0 ([]:List Int),G1 0,G1 0,G1 0] [.int .i64 0,.int .i64 0,.bool false,.int .i64 0,.int .i64 0,.int .i64 0,.int .i64 0,.int .i64 0,.slice none 0 0,.int .i64 0,.int .i64 0,.int .i64 0] Hc0 H2f ⟨.inl G,.inl G,.inl G,.inl G,.inl G,.inl G,.inl G,.inl G,.inr ⟨_,G,G⟩,.inl G,.inl G,.inl G,ø⟩ G G) G (JLh (E5 ([(Ga.mk 0 (i21:Int) false 2 0 0 0 0 [] 0 0 0)])) (Hs (xs:=[.agg [G1 0,En i21,BL false,G1 2,G1 0,G1 0,G1 0,G1 0,E0 ([]:List Int),G1 0,G1 0,G1 0]]) G ⟨G,G,ø⟩ Hb G4a G G G G) G ?_))))
  obtain⟨ha26,h⟩:=Hr h
  refine JLh (OW 1069 12 Ga.av (s21.1++[(Ga.mk 0 (i21:Int) false 2 0 0 0 0 [] 0 0 0)])) (Qx (f:=Ga.av) (xs:=s21.1) (ys:=[(Ga.mk 0 (i21:Int) false 2 0 0 0 0 [] 0 0 0)]) G G G G Hb H30 ha26 (fun _=>G) (.inl G) G) G (JLh (.ptr 1068 0) (Qr Hw G G) G (Jb (u:=.junk) (J4 (u:=OW 1069 12 Ga.av (s21.1++[(Ga.mk 0 (i21:Int) false 2 0 0 0 0 [] 0 0 0)])) (ds:=[OW 1069 12 Ga.av (s21.1++[(Ga.mk 0 (i21:Int) false 2 0 0 0 0 [] 0 0 0)]),E4 s21.2.1,G1 s21.2.2.1,G1 s21.2.2.2.1,G1 s21.2.2.2.2.1,G1 s21.2.2.2.2.2.1,E7 s21.2.2.2.2.2.2.1,E6 s21.2.2.2.2.2.2.2.1,E8 s21.2.2.2.2.2.2.2.2.1,G1 s21.2.2.2.2.2.2.2.2.2.1,G1 s21.2.2.2.2.2.2.2.2.2.2.1,G1 s21.2.2.2.2.2.2.2.2.2.2.2.1,G1 s21.2.2.2.2.2.2.2.2.2.2.2.2]) J6d G G G G G G G G) (G9 (hK24 _ _ ?_))))
  refine G3 (JLh (G1 ((i21+1:Nat):Int)) (Hj (Hi hk21 (G07 hx21)) G G G) G (JLh (G1 ((i21+1:Nat):Int)) (G4 G G) G (G9 (e21 _ _ (i21+1) ((s21.1++[(Ga.mk 0 (i21:Int) false 2 0 0 0 0 [] 0 0 0)]),s21.2.1,s21.2.2.1,s21.2.2.2.1,s21.2.2.2.2.1,s21.2.2.2.2.2.1,s21.2.2.2.2.2.2.1,s21.2.2.2.2.2.2.2.1,s21.2.2.2.2.2.2.2.2.1,s21.2.2.2.2.2.2.2.2.2.1,s21.2.2.2.2.2.2.2.2.2.2.1,s21.2.2.2.2.2.2.2.2.2.2.2.1,s21.2.2.2.2.2.2.2.2.2.2.2.2) (app1 hn21 h) (by omega) ⟨(by repeat' constructor),⟨⟨_,rfl,.same⟩,⟨_,rfl,.boxL rfl (by repeat' constructor)⟩,⟨_,rfl,.boxL rfl (by repeat' constructor)⟩,ø⟩,rfl⟩))))
 ·
  have h:=app1 hkx21 (G30 hi21 (Rx hb))
  refine Hc (hK3 _ _ ?_)
  refine G5 fun K27 hK27=>G3 (JLh (.agg [OW 1069 12 Ga.av s21.1,E4 s21.2.1,G1 s21.2.2.1,G1 s21.2.2.2.1,G1 s21.2.2.2.2.1,G1 s21.2.2.2.2.2.1,E7 s21.2.2.2.2.2.2.1,E6 s21.2.2.2.2.2.2.2.1,E8 s21.2.2.2.2.2.2.2.2.1,G1 s21.2.2.2.2.2.2.2.2.2.1,G1 s21.2.2.2.2.2.2.2.2.2.2.1,G1 s21.2.2.2.2.2.2.2.2.2.2.2.1,G1 s21.2.2.2.2.2.2.2.2.2.2.2.2]) (H7d Jd G G G G) G (Jb (u:=.junk) (J4 (u:=.agg [OW 1069 12 Ga.av s21.1,E4 s21.2.1,G1 s21.2.2.1,G1 s21.2.2.2.1,G1 s21.2.2.2.2.1,G1 s21.2.2.2.2.2.1,E7 s21.2.2.2.2.2.2.1,E6 s21.2.2.2.2.2.2.2.1,E8 s21.2.2.2.2.2.2.2.2.1,G1 s21.2.2.2.2.2.2.2.2.2.1,G1 s21.2.2.2.2.2.2.2.2.2.2.1,G1 s21.2.2.2.2.2.2.2.2.2.2.2.1,G1 s21.2.2.2.2.2.2.2.2.2.2.2.2]) (ds:=[OW 1069 12 Ga.av s21.1,E4 s21.2.1,G1 s21.2.2.1,G1 s21.2.2.2.1,G1 s21.2.2.2.2.1,G1 s21.2.2.2.2.2.1,E7 s21.2.2.2.2.2.2.1,E6 s21.2.2.2.2.2.2.2.1,E8 s21.2.2.2.2.2.2.2.2.1,G1 s21.2.2.2.2.2.2.2.2.2.1,G1 s21.2.2.2.2.2.2.2.2.2.2.1,G1 s21.2.2.2.2.2.2.2.2.2.2.2.1,G1 s21.2.2.2.2.2.2.2.2.2.2.2.2]) Hc5 G G G G G G G G) (G9 (hK27 _ _ ?_))))
  refine Gx (⟨[.agg [E5 s21.1,E4 s21.2.1,G1 s21.2.2.1,G1 s21.2.2.2.1,G1 s21.2.2.2.2.1,G1 s21.2.2.2.2.2.1,E7 s21.2.2.2.2.2.2.1,E6 s21.2.2.2.2.2.2.2.1,E8 s21.2.2.2.2.2.2.2.2.1,G1 s21.2.2.2.2.2.2.2.2.2.1,G1 s21.2.2.2.2.2.2.2.2.2.2.1,G1 s21.2.2.2.2.2.2.2.2.2.2.2.1,G1 s21.2.2.2.2.2.2.2.2.2.2.2.2]],[],ø,G,⟨⟨_,⟨_,_,_,_,G,G,G,.inl ⟨Jd,G⟩⟩,.agg ⟨.list G,.same G,.same G,.same G,.same G,.same G,.same G,.same G,.same G,.same G,.same G,.same G,.same G,ø⟩⟩,ø⟩,G,congrArg (fun r:J0=>(.agg (J0.cs r):AV)) (Option.some.inj h)⟩)

def H18 (c:G2):Option Int:=
 Rm (2*c.Whole) fun v3=>
 Rm (v3+c.Half) fun v4=>
 some v4
theorem H54 (c:G2) (r:Int) (h:H18 c=some r):Pure Tryz.prog 227 [.agg (G2.cs c)] (·=G1 r):=by
 unfold H18 at h
 refine H1 [.tmp 2] Tryz.func227 G G (G5 fun K1 hK1=>G3 (JLh (.ptr 1138 0) (Qi (u:=.agg (G2.cs c)) (cs:=[G1 c.G6.Load,G1 c.G6.Discharge,G1 c.Whole,G1 c.Half]) 1138 G G G G G) G (JLh (G1 0) (G8 G G) G (G9 (hK1 _ _ (Gz [(1,Ee c)] [] 1138 rfl rfl rfl ø rfl (by exact⟨.ptr,ø⟩) (G5 fun K2 hK2=>G3 (JLh (.dptr [G1 c.Whole,G1 c.Half]) (Ge G1b G G G) G (JLh (G1 c.Whole) (Gk Gc G G G) G ?_)))))))))
 obtain⟨v3,hv3,h⟩:=Hf h
 refine JLh (G1 v3) (G77 hv3 G G G) G (JLh (.dptr [G1 c.Half]) (Ge G1a G G G) G (JLh (G1 c.Half) (Gk Gc G G G) G ?_))
 obtain⟨v4,hv4,h⟩:=Hf h
 refine JLh (G1 v4) (Hj hv4 G G G) G (JLh (G1 v4) (G8 G G) G (G9 (hK2 _ _ (Gx (⟨[G1 v4],[],ø,G,⟨⟨_,G,.conv (.same G)⟩,ø⟩,G,congrArg (fun r:Int=>(G1 r:AV)) (Option.some.inj h)⟩)))))

def G85 (F:Nat) (counts:List G2) (call:Int):Option (List G2):=
 each (fun y19 i19 (s19:(List G2)) nx19=>
  jp (fun kj22=>
   bif ((decide (y19.G6.Load≤call))&&(decide (call < y19.G6.Discharge))) then
   (need (decide ((s19.length+[y19].length)*32≤140737488355328∧s19.length+[y19].length≤maxLen)) <|
    kj22 (s19++[y19]))
   else
   (kj22 s19)) fun(j22:(List G2))=>
  nx19 j22)
 (fun(s19:(List G2))=>
  bnd (G9b (s19.length:Int)) fun m27=>
  need (decide (8*m27≤281474976710656∧m27≤maxLen∧m27*1≤16777216)) <|
  bnd (G9b (s19.length:Int)) fun m29=>
  need (decide (8*m29≤281474976710656∧m29≤maxLen∧m29*1≤16777216)) <|
  Rm ((s19.length:Int) - 1) fun v34=>
  loop (fun nx35 (s35:Int×Int×(List Int)×(List Int))=>
   bif decide (0≤s35.2.1) then
   (jp (fun kj38=>
     Qe s35.2.2.2 s35.2.1 fun y40=>
     Rm ((s19.length:Int) - 1) fun v43=>
     loop (fun nx102 (s102:Int×(List Int)×(List Int))=>
      bif decide (s35.2.1 < s102.1) then
      (jp (fun kj105=>
        Qe s19 s102.1 fun y107=>
        Qe s19 s35.2.1 fun y109=>
        bnd (bif decide (y109.G6.Load < y107.G6.Load) then Qe s19 s102.1 some else some default) fun y111=>
        bnd (bif decide (y109.G6.Load < y107.G6.Load) then Qe s19 s35.2.1 some else some default) fun y112=>
        bnd (bif ((decide (y109.G6.Load < y107.G6.Load))&&(decide (y112.G6.Discharge < y111.G6.Discharge))) then Qe s102.2.1 s102.1 some else some default) fun y113=>
        bnd (bif ((decide (y109.G6.Load < y107.G6.Load))&&(decide (y112.G6.Discharge < y111.G6.Discharge))) then Qe s102.2.1 s35.2.1 some else some default) fun y114=>
        bif (((decide (y109.G6.Load < y107.G6.Load))&&(decide (y112.G6.Discharge < y111.G6.Discharge)))&&(decide (y114≤y113))) then
        (Qe s102.2.1 s102.1 fun y115=>
         Qe s102.2.1 s35.2.1 fun y116=>
         Qe s102.2.2 s35.2.1 fun y117=>
         kj105 ((s102.2.1.set s35.2.1.toNat y115),(s102.2.2.set s35.2.1.toNat s102.1)))
        else
        (kj105 (s102.2.1,s102.2.2))) fun(j105:(List Int)×(List Int))=>
       Rm (s102.1 - 1) fun v118=>
       nx102 (v118,j105.1,j105.2))
      else
      (Qe s102.2.1 s35.2.1 fun y120=>
       Qe s19 s35.2.1 fun y121=>
       bnd (H18 y121) fun r123=>
       Rm (y120+r123) fun v124=>
       Qe s102.2.1 s35.2.1 fun y125=>
       bnd (bif (!(decide (s35.1 < 0))) then Qe (s102.2.1.set s35.2.1.toNat v124) s35.2.1 some else some default) fun y127=>
       bnd (bif (!(decide (s35.1 < 0))) then Qe (s102.2.1.set s35.2.1.toNat v124) s35.1 some else some default) fun y128=>
       bif ((decide (s35.1 < 0))||(decide (y128≤y127))) then
       (kj38 (s35.2.1,(s102.2.1.set s35.2.1.toNat v124),s102.2.2))
       else
       (kj38 (s35.1,(s102.2.1.set s35.2.1.toNat v124),s102.2.2)))) F (v43,s35.2.2.1,(s35.2.2.2.set s35.2.1.toNat (-1)))) fun(j38:Int×(List Int)×(List Int))=>
    Rm (s35.2.1 - 1) fun v129=>
    nx35 (j38.1,v129,j38.2.1,j38.2.2))
   else
   (loop (fun nx144 (s144:(List G2)×Int)=>
     bif decide (0≤s144.2) then
     (Qe s19 s144.2 fun y148=>
      need (decide ((s144.1.length+[y148].length)*32≤140737488355328∧s144.1.length+[y148].length≤maxLen)) <|
      Qe s35.2.2.2 s144.2 fun y151=>
      nx144 ((s144.1++[y148]),y151))
     else
     (some s144.1)) F ([],s35.1))) F ((-1),v34,(List.replicate m27 (0:Int)),(List.replicate m29 (0:Int)))) counts 0 []
def Gb7 (F:Nat) (l:List G2) (p1:J0):Option Int:=
 bnd (Zv F p1 l) fun r3=>
 some r3
theorem J17 (F:Nat) (l:List G2) (p1:J0) (r:Int) (h:Gb7 F l p1=some r):Pure Tryz.prog 119 [E3 l,Ed p1] (·=G1 r):=by
 unfold Gb7 at h
 refine H1 [.tmp 3] Tryz.func119 G G (G5 fun K1 hK1=>G3 (JLh (G1 0) (G8 G G) G (G9 (hK1 _ _ (G5 fun K2 hK2=>G3 (JLh (.agg (J0.cs p1)) (Gi Jd G G G) G (JLh (E3 l) (G4 G G) G ?_)))))))
 obtain⟨r3,hr3,h⟩:=Gf h
 refine JLh (G1 r3) (Gs (args:=[.agg (J0.cs p1),E3 l]) G (Ge0 F p1 l r3 hr3) H99 ⟨G,G,G,G,ø⟩) G (JLh (G1 r3) (G8 G G) G (G9 (hK2 _ _ (Gx (⟨[G1 r3],[],ø,G,⟨⟨_,G,.conv (.same G)⟩,ø⟩,G,congrArg (fun r:Int=>(G1 r:AV)) (Option.some.inj h)⟩)))))

def G18 (l:List (List G2)) (number:(List G2)→Option Int):Option ((List G2)×Int):=
 each (fun y22 i22 (s22:(List G2)×Int) nx22=>
  jp (fun kj25=>
   bnd (number y22) fun r28=>
   bif decide (s22.2 < r28) then
   (kj25 (y22,r28))
   else
   (kj25 (s22.1,s22.2))) fun(j25:(List G2)×Int)=>
  nx22 (j25.1,j25.2))
 (fun(s22:(List G2)×Int)=>
  some (s22.1,s22.2)) l 0 ([],0)
theorem Gd2 (l:List (List G2)) (number:(List G2)→Option Int) (number_f:FuncId) (number_c:List AV) (number_B:Hn Tryz.prog number_f=true) (number_d:G0a (fun _=>false) number_c=true) (number_w:∀ a0 q,number a0=some q→Pure Tryz.prog number_f ([E3 a0]++number_c) (·=G1 q)) (r:(List G2)×Int) (h:G18 l number=some r):Pure Tryz.prog 118 [LS 1 (E3) l,.fn number_f number_c] (·=.tup [E3 r.1,G1 r.2]):=by
 unfold G18 at h
 refine H1 [.tmp 4,.tmp 5] Tryz.func118 G G (G5 fun K1 hK1=>G3 (JLh (E3 ([]:List G2)) (Rs 4 G G) G (JLh (G1 0) (G8 G G) G (G9 (hK1 _ _ (G5 fun K2 hK2=>G3 (JLh (E3 ([]:List G2)) (Rs 4 G G) G (G9 (hK2 _ _ (G5 fun K3 hK3=>G3 (JLh (G1 0) (G8 G G) G (G9 (hK3 _ _ (G5 (fun K4 hK4=>G5 fun K5 hK5=>G3 (JLh (LS 1 (E3) l) (G4 G G) G (H0 (f:=(E3)) (xs:=l) Ge5 G G (fun hm12=>?_) G G G)))))))))))))))))
 refine JLh (G1 0) (G4 G G) G (G9 (hK5 _ _ (Gn ?_)))
 obtain⟨b22,kx22,hb22,hkx22,h⟩:=J9 h
 refine H7 (fun i22 (s22:(List G2)×Int)=>each b22 kx22 (List.drop i22 l) i22 s22=some r) (fun i22 s22=>[(1,.fn number_f number_c),(6,E3 s22.1),(7,G1 s22.2),(11,LS 1 (E3) l),(12,En l.length),(13,En i22)]) (fun i22 s22=>[]) (fun i22=>l.length - i22) 0 ([],0) h ⟨⟨.same (Yb _ _ number_d),.same G,.same G,.same G,.same G,.same G,ø⟩,ø,G⟩ ?_
 clear h
 intro i22 s22 hi22 K22 e22
 refine G5 fun K23 hK23=>G3 (JLh (BL (decide ((i22:Int) < (l.length:Int)))) (Hx G G G) G (G9 (hK23 _ _ (G5 (fun K24 hK24=>Gp G (fun hb=>?_) (fun hb=>?_))))))
 ·
  have hk22:=Jm hb
  obtain⟨y22,nx22,hy22,hn22,h⟩:=Hy hi22 hk22
  replace h:=Zn hb22 h
  refine Gq (hK24 _ _ ?_)
  obtain⟨kj25,hkj25,h⟩:=G40 h
  refine G0b (fun j25:(List G2)×Int=>kj25 j25=some r) (fun j25=>[(1,.fn number_f number_c),(6,E3 j25.1),(7,G1 j25.2),(11,LS 1 (E3) l),(12,En l.length),(13,En i22)]) (fun j25=>[]) (fun Kj25 ej25=>?_) ?_
  ·
   refine Gn (G5 fun K26 hK26=>G3 (JLh (.dptr [E3 y22]) (Gv (f:=(E3)) (xs:=l) (y:=y22) G G G Ge5 hy22 G) G (JLh (E3 y22) (Gk Jbb G G G) G (JLh (E3 y22) (G8 G G) G (G9 (hK26 _ _ (G5 fun K27 hK27=>G3 (JLh (.fn number_f number_c) (G4 G G) G (JLh (E3 y22) (G4 G G) G ?_)))))))))
   obtain⟨r28,hr28,h⟩:=Gf h
   refine JLh (G1 r28) (H58 (args:=[E3 y22]) (caps:=number_c) G G (number_w y22 _ hr28) number_B ⟨G,G,ø⟩ number_d) G (JLh (G1 r28) (G8 G G) G (G9 (hK27 _ _ (G5 fun K29 hK29=>G3 (JLh (G1 r28) (G4 G G) G (JLh (G1 s22.2) (G4 G G) G (JLh (BL (decide (s22.2 < r28))) (Ya G G G) G (G9 (hK29 _ _ (Gp G (fun hb=>?_) (fun hb=>?_)))))))))))
   ·
    replace h:=Gy hb h
    refine G3 (JLh (E3 y22) (G4 G G) G (JLh (G1 r28) (G4 G G) G (JLh (E3 y22) (G8 G G) G (JLh (G1 r28) (G8 G G) G (G9 (ej25 _ _ (y22,r28) h ⟨⟨.same (Yb _ _ number_d),.same G,.same G,.same G,.same G,.same G,ø⟩,ø,G⟩))))))
   ·
    replace h:=Hp hb h
    refine Gq (ej25 _ _ (s22.1,s22.2) h ⟨⟨.same (Yb _ _ number_d),.same G,.same G,.same G,.same G,.same G,ø⟩,ø,G⟩)
  ·intro j25 h
   replace h:=app1 hkj25 h
   refine G3 (JLh (G1 ((i22+1:Nat):Int)) (Hj (Hi hk22 hm12) G G G) G (JLh (G1 ((i22+1:Nat):Int)) (G4 G G) G (G9 (e22 _ _ (i22+1) (j25.1,j25.2) (app1 hn22 h) (by omega) ⟨⟨.same (Yb _ _ number_d),.same rfl,.same rfl,.same rfl,.same rfl,.same rfl,ø⟩,ø,rfl⟩))))
 ·
  have h:=app1 hkx22 (Hz hi22 (Hg hb))
  refine Hc (hK4 _ _ (G5 fun K30 hK30=>G3 (JLh (E3 s22.1) (G4 G G) G (JLh (G1 s22.2) (G4 G G) G (JLh (E3 s22.1) (G8 G G) G (JLh (G1 s22.2) (G8 G G) G (G9 (hK30 _ _ (Gx (⟨[E3 s22.1,G1 s22.2],[],ø,G,⟨⟨_,G,.conv (.same G)⟩,⟨_,G,.conv (.same G)⟩,ø⟩,G,congrArg (fun r:(List G2)×Int=>(.tup [E3 r.1,G1 r.2]:AV)) (Option.some.inj h)⟩))))))))))

def G41 (s:List G6) (v:G6):Option Int:=
 each (fun y18 i18 (s18:Unit) nx18=>
  bif decide (v=y18) then
  (some (i18:Int))
  else
  (nx18 ()))
 (fun(s18:Unit)=>
  some (-1)) s 0 ()
theorem H2a (s:List G6) (v:G6) (r:Int) (h:G41 s v=some r):Pure Tryz.prog 228 [E1 s,.agg [G1 v.Load,G1 v.Discharge]] (·=G1 r):=by
 unfold G41 at h
 refine H1 [.tmp 4] Tryz.func228 G G (G5 fun K1 hK1=>G3 (JLh (.ptr 1139 0) (Qi (u:=.agg [G1 v.Load,G1 v.Discharge]) (cs:=[G1 v.Load,G1 v.Discharge]) 1139 G G G G G) G (JLh (G1 0) (G8 G G) G (G9 (hK1 _ _ (Gz [(0,E1 s),(3,.dptr [G1 v.Load,G1 v.Discharge])] [] 1139 rfl rfl rfl ø rfl (by exact⟨.conv (.same rfl),.ptr,ø⟩) (G5 (fun K2 hK2=>G5 fun K3 hK3=>G3 (JLh (E1 s) (G4 G G) G (H0 (f:=G6.av) (xs:=s) Ha G G (fun hm7=>?_) G G G))))))))))
 refine JLh (G1 0) (G4 G G) G (G9 (hK3 _ _ (Gn ?_)))
 obtain⟨b18,kx18,hb18,hkx18,h⟩:=J9 h
 refine H7 (fun i18 (s18:Unit)=>each b18 kx18 (List.drop i18 s) i18 s18=some r) (fun i18 s18=>[(0,E1 s),(3,.dptr [G1 v.Load,G1 v.Discharge]),(7,En s.length),(8,En i18)]) (fun i18 s18=>[]) (fun i18=>s.length - i18) 0 () h ⟨(by repeat' constructor),ø,rfl⟩ ?_
 clear h
 intro i18 s18 hi18 K18 e18
 refine G5 fun K19 hK19=>G3 (JLh (BL (decide ((i18:Int) < (s.length:Int)))) (Hx G G G) G (G9 (hK19 _ _ (G5 (fun K20 hK20=>Gp G (fun hb=>?_) (fun hb=>?_))))))
 ·
  have hk18:=Jm hb
  obtain⟨y18,nx18,hy18,hn18,h⟩:=Hy hi18 hk18
  replace h:=Zn hb18 h
  refine Gq (hK20 _ _ (G5 (fun K21 hK21=>Gn (G5 fun K22 hK22=>G3 (JLh (En i18) (G4 G G) G (JLh (En i18) (G8 G G) G (G9 (hK22 _ _ (G5 (fun K23 hK23=>Jc [] [0,0,0,0,0,0] [0,0,0,0,0,0] [[]] J3 (by kernel_rfl) rfl rfl ?_))))))))))
  refine Gb (u:=.agg [G1 v.Load,G1 v.Discharge]) G G ⟨Gh (Gi Ho G G G) G,ø⟩ (Gb (u:=E1 s) G G ⟨Gh (G4 G G) G,ø⟩ (Gb (u:=En i18) G G ⟨Gh (G4 G G) G,ø⟩ (Gb (u:=.dptr [G1 y18.Load,G1 y18.Discharge]) G G ⟨Gh (Gv (f:=G6.av) (xs:=s) (y:=y18) G G G Ha hy18 G) G,ø⟩ (Gb (u:=.agg [G1 y18.Load,G1 y18.Discharge]) G G ⟨Gh (Gi Ho G G G) G,ø⟩ (Gb (u:=BL (decide (v=y18))) G G ⟨Gh (G73 (vs:=[.int .i64 v.Load,.int .i64 v.Discharge]) (us:=[.int .i64 y18.Load,.int .i64 y18.Discharge]) 4 G (J6b v y18) G9a Gf4 G G G) G,ø⟩ (Rb (hK23 _ _ (Gp G (fun hb=>?_) (fun hb=>?_)))))))))
  ·
   replace h:=Gy hb h
   refine G5 fun K24 hK24=>G3 (JLh (En i18) (G4 G G) G (JLh (En i18) (G8 G G) G (G9 (hK24 _ _ (Gx (⟨[En i18],[],ø,G,⟨⟨_,G,.conv (.same G)⟩,ø⟩,G,congrArg (fun r:Int=>(G1 r:AV)) (Option.some.inj h)⟩))))))
  ·
   replace h:=Hp hb h
   refine Gq (hK21 _ _ (G3 (JLh (G1 ((i18+1:Nat):Int)) (Hj (Hi hk18 hm7) G G G) G (JLh (G1 ((i18+1:Nat):Int)) (G4 G G) G (G9 (e18 _ _ (i18+1) () (app1 hn18 h) (by omega) ⟨(by repeat' constructor),ø,rfl⟩))))))
 ·
  have h:=app1 hkx18 (Hz hi18 (Hg hb))
  refine Hc (hK2 _ _ (G5 fun K25 hK25=>G3 (JLh (G1 (-1)) (G8 G G) G (G9 (hK25 _ _ (Gx (⟨[G1 (-1)],[],ø,G,⟨⟨_,G,.conv (.same G)⟩,ø⟩,G,congrArg (fun r:Int=>(G1 r:AV)) (Option.some.inj h)⟩)))))))

def G25 (s:List G6) (v:G6):Option Bool:=
 bnd (G41 s v) fun r3=>
 some (decide (0≤r3))
theorem Gdd (s:List G6) (v:G6) (r:Bool) (h:G25 s v=some r):Pure Tryz.prog 122 [E1 s,.agg [G1 v.Load,G1 v.Discharge]] (·=BL r):=by
 unfold G25 at h
 refine H1 [.tmp 4] Tryz.func122 G G (G5 fun K1 hK1=>G3 (JLh (.ptr 1101 0) (Qi (u:=.agg [G1 v.Load,G1 v.Discharge]) (cs:=[G1 v.Load,G1 v.Discharge]) 1101 G G G G G) G (JLh (BL false) (G8 G G) G (G9 (hK1 _ _ (Gz [(0,E1 s),(3,.dptr [G1 v.Load,G1 v.Discharge])] [] 1101 rfl rfl rfl ø rfl (by exact⟨.conv (.same rfl),.ptr,ø⟩) (G5 fun K2 hK2=>G3 (JLh (E1 s) (G4 G G) G (JLh (.agg [G1 v.Load,G1 v.Discharge]) (Gi Ho G G G) G ?_)))))))))
 obtain⟨r3,hr3,h⟩:=Gf h
 refine JLh (G1 r3) (Gs (args:=[E1 s,.agg [G1 v.Load,G1 v.Discharge]]) G (H2a s v r3 hr3) Jc8 ⟨G,G,G,G,ø⟩) G (JLh (BL (decide (0≤r3))) (G28 G G G) G (JLh (BL (decide (0≤r3))) (G8 G G) G (G9 (hK2 _ _ (Gx (⟨[BL (decide (0≤r3))],[],ø,G,⟨⟨_,G,.conv (.same G)⟩,ø⟩,G,congrArg (fun r:Bool=>(BL r:AV)) (Option.some.inj h)⟩))))))

def Gb6 (c:G2) (p1:List G6):Option Bool:=
 bnd (G25 p1 c.G6) fun r3=>
 some r3
theorem J16 (c:G2) (p1:List G6) (r:Bool) (h:Gb6 c p1=some r):Pure Tryz.prog 121 [.agg (G2.cs c),.dptr [E1 p1]] (·=BL r):=by
 unfold Gb6 at h
 refine H1 [.tmp 3] Tryz.func121 G G (G5 fun K1 hK1=>G3 (JLh (.ptr 1100 0) (Qi (u:=.agg (G2.cs c)) (cs:=[G1 c.G6.Load,G1 c.G6.Discharge,G1 c.Whole,G1 c.Half]) 1100 G G G G G) G (JLh (BL false) (G8 G G) G (G9 (hK1 _ _ (Gz [(1,.dptr [E1 p1]),(2,Ee c)] [] 1100 rfl rfl rfl ø rfl (by exact⟨.conv (.same rfl),.ptr,ø⟩) (G5 fun K2 hK2=>G3 (JLh (E1 p1) (Gk Rv G G G) G (JLh (Ee c) (Ge Ju G G G) G (JLh (.agg [G1 c.G6.Load,G1 c.G6.Discharge]) (Gi Ho G G G) G ?_))))))))))
 obtain⟨r3,hr3,h⟩:=Gf h
 refine JLh (BL r3) (Gs (args:=[E1 p1,.agg [G1 c.G6.Load,G1 c.G6.Discharge]]) G (Gdd p1 c.G6 r3 hr3) Jdf ⟨G,G,G,G,ø⟩) G (JLh (BL r3) (G8 G G) G (G9 (hK2 _ _ (Gx (⟨[BL r3],[],ø,G,⟨⟨_,G,.conv (.same G)⟩,ø⟩,G,congrArg (fun r:Bool=>(BL r:AV)) (Option.some.inj h)⟩)))))


theorem H46 (F:Nat) (counts:List G2) (counts_q:Nat) (call:Int) (r:(List G2)) (h:G85 F counts call=some r):Za Tryz.prog 117 [.vec 1021 counts_q 4 counts.length,G1 call] [(1021,.vec 81 4 counts_q (counts.map G2.av))] (fun av L'=>av=E3 r∧L'=[(1021,.vec 81 4 counts_q (counts.map G2.av))]):=by
 unfold G85 at h
 refine Gc4 [1021] [.tmp 4] Tryz.func117 G G (inAll G) (G5 fun K1 hK1=>G3 (JLh (E3 ([]:List G2)) (Rs 4 G G) G (G9 (hK1 _ _ (G5 fun K2 hK2=>G3 (JLh (OW 1093 4 G2.av ([]:List G2)) (G89 1093 81 4 G G G) G (G9 (hK2 _ _ (G5 (fun K3 hK3=>G5 fun K4 hK4=>G3 (JLh (.vec 1021 counts_q 4 counts.length) (G4 G G) G (Hf2 (f:=G2.av) (xs:=counts) H8 G G G (fun hm16=>?_) G G G))))))))))))
 refine JLh (G1 0) (G4 G G) G (G9 (hK4 _ _ (Gn ?_)))
 obtain⟨b17,kx17,hb17,hkx17,h⟩:=J9 h
 refine H7 (fun i17 (s17:(List G2))=>each b17 kx17 (List.drop i17 counts) i17 s17=some r) (fun i17 s17=>[(1,G1 call),(5,OW 1093 4 G2.av s17),(15,.vec 1021 counts_q 4 counts.length),(16,En counts.length),(17,En i17)]) (fun i17 s17=>[(1021,.vec 81 4 counts_q (counts.map G2.av)),(1093,.spare 81 4 s17.length s17.length)]) (fun i17=>counts.length - i17) 0 [] h ⟨(by repeat' constructor),⟨⟨_,rfl,.vec⟩,⟨_,rfl,.same⟩,ø⟩,rfl⟩ ?_
 clear h
 intro i17 s17 hi17 K17 e17
 refine G5 fun K18 hK18=>G3 (JLh (BL (decide ((i17:Int) < (counts.length:Int)))) (Hx G G G) G (G9 (hK18 _ _ (G5 (fun K19 hK19=>Gp G (fun hb=>?_) (fun hb=>?_))))))
 ·
  have hk17:=Jm hb
  obtain⟨y17,nx17,hy17,hn17,h⟩:=Hy hi17 hk17
  replace h:=Zn hb17 h
  refine Gq (hK19 _ _ ?_)
  obtain⟨kj20,hkj20,h⟩:=G40 h
  refine G0b (fun j20:(List G2)=>kj20 j20=some r) (fun j20=>[(1,G1 call),(5,OW 1093 4 G2.av j20),(15,.vec 1021 counts_q 4 counts.length),(16,En counts.length),(17,En i17)]) (fun j20=>[(1021,.vec 81 4 counts_q (counts.map G2.av)),(1093,.spare 81 4 j20.length j20.length)]) (fun Kj20 ej20=>?_) ?_
  ·
   refine Gn (G5 fun K21 hK21=>G3 (JLh (.vptr 1021 counts_q i17 0) (Y5 (f:=G2.av) (xs:=counts) (y:=y17) G G G G H8 hy17 G) G (JLh (.agg (G2.cs y17)) (J4e (f:=G2.av) (xs:=counts) (y:=y17) R0 G G G hy17 G G) G (JLh (.ptr 1094 0) (Jn 1094 4 R9 G G) G (Jb (u:=.junk) (J4 (u:=.agg (G2.cs y17)) (ds:=[G1 y17.G6.Load,G1 y17.G6.Discharge,G1 y17.Whole,G1 y17.Half]) G1f G G G G G G G G) (G9 (hK21 _ _ ?_)))))))
   refine Gz [(1,G1 call),(5,OW 1093 4 G2.av s17),(7,Ee y17),(15,.vec 1021 counts_q 4 counts.length),(16,En counts.length),(17,En i17)] [(1021,.vec 81 4 counts_q (counts.map G2.av)),(1093,.spare 81 4 s17.length s17.length)] 1094 rfl rfl rfl ⟨⟨_,rfl,.vec⟩,⟨_,rfl,.same⟩,ø⟩ rfl (by repeat' (first | exact .ptr | constructor)) (G5 fun K22 hK22=>G3 (JLh (Ee y17) (Ge Ju G G G) G (JLh (Ee y17) (Ge Jv G G G) G (JLh (G1 y17.G6.Load) (Gk Gc G G G) G (JLh (G1 call) (G4 G G) G (JLh (BL (decide (y17.G6.Load≤call))) (H81 G G G) G (JLh (BL (decide (y17.G6.Load≤call))) (G4 G G) G (Gd (u:=G1 call) [] G G G .sct ø (fun hc=>G4 G G) ?_))))))))
   refine Gd (u:=Ee y17) [] G G G .sct ø (fun hc=>Ge Ju G G G) ?_
   refine Gd (u:=.dptr ((G2.cs y17).drop 1)) [(28,Ee y17)] G G G .sct ⟨.all id,ø⟩ (fun hc=>Ge Qb G G G) ?_
   refine Gd (u:=G1 y17.G6.Discharge) [(29,.dptr ((G2.cs y17).drop 1))] G G G .sct ⟨.all id,ø⟩ (fun hc=>Gk Gc G G G) ?_
   refine Gd (u:=BL (decide (call < y17.G6.Discharge))) [(27,G1 call),(30,G1 y17.G6.Discharge)] G G G .sct ⟨.all id,.all id,ø⟩ (fun hc=>Hx G G G) ?_
   refine JLh (BL ((decide (y17.G6.Load≤call))&&(decide (call < y17.G6.Discharge)))) (J7 G G G G) G (G9 (hK22 _ _ (Gp G (fun hb=>?_) (fun hb=>?_))))
   ·
    replace h:=Gy hb h
    refine G3 (JLh (OW 1093 4 G2.av s17) (G4 G G) G (JLh (.agg (G2.cs y17)) (Gi R0 G G G) G (JLh (E3 [y17]) (Hs (xs:=[.agg (G2.cs y17)]) G ⟨G,G,ø⟩ H8 R9 G G G G) G ?_)))
    obtain⟨ha23,h⟩:=Hr h
    refine JLh (OW 1093 4 G2.av (s17++[y17])) (Qx (f:=G2.av) (xs:=s17) (ys:=[y17]) G G G G H8 G94 ha23 (fun _=>G) (.inl G) G) G (JLh (OW 1093 4 G2.av (s17++[y17])) (G8 G G) G (G9 (ej20 _ _ (s17++[y17]) h ⟨(by repeat' constructor),⟨⟨_,rfl,.vec⟩,⟨_,rfl,.same⟩,ø⟩,rfl⟩)))
   ·
    replace h:=Hp hb h
    refine Gq (ej20 _ _ s17 h ⟨(by repeat' constructor),⟨⟨_,rfl,.vec⟩,⟨_,rfl,.same⟩,ø⟩,rfl⟩)
  ·intro j20 h
   replace h:=app1 hkj20 h
   refine G3 (JLh (G1 ((i17+1:Nat):Int)) (Hj (Hi hk17 hm16) G G G) G (JLh (G1 ((i17+1:Nat):Int)) (G4 G G) G (G9 (e17 _ _ (i17+1) j20 (app1 hn17 h) (by omega) ⟨(by repeat' constructor),⟨⟨_,rfl,.vec⟩,⟨_,rfl,.same⟩,ø⟩,rfl⟩))))
 ·
  have h:=app1 hkx17 (Hz hi17 (Hg hb))
  refine Hc (hK3 _ _ (G5 (fun K24 hK24=>Z9 (l':=[(5,OW 1093 4 G2.av s17)]) (L':=[(1021,.vec 81 4 counts_q (counts.map G2.av)),(1093,.spare 81 4 s17.length s17.length)]) ⟨⟨.same G,ø⟩,⟨⟨_,G,.vec⟩,⟨_,G,.same⟩,ø⟩,G⟩ ?_)))
  obtain⟨m25,hm25,h⟩:=Gf h
  obtain⟨ha26,h⟩:=Hr h
  obtain⟨m27,hm27,h⟩:=Gf h
  obtain⟨ha28,h⟩:=Hr h
  refine Ja6 [2,5] [[[false,false],[false,true]],[[false,false],[false,true]],[[false,false],[false,true]],[[false,false],[true,false]],[[false,false],[true,false]],[[false,false],[true,false]],[[true,false],[true,true]],[[true,true]]] [([false,false],[(1021,.vec 81 4 counts_q (counts.map G2.av)),(1093,.spare 81 4 s17.length s17.length)]),([false,true],[(1021,.vec 81 4 counts_q (counts.map G2.av)),(1093,.spare 81 4 s17.length s17.length),(1097,.vec 3 1 0 ((List.replicate m27 (0:Int)).map G1))]),([true,false],[(1021,.vec 81 4 counts_q (counts.map G2.av)),(1093,.spare 81 4 s17.length s17.length),(1096,.vec 3 1 0 ((List.replicate m25 (0:Int)).map G1))]),([true,true],[(1021,.vec 81 4 counts_q (counts.map G2.av)),(1093,.spare 81 4 s17.length s17.length),(1096,.vec 3 1 0 ((List.replicate m25 (0:Int)).map G1)),(1097,.vec 3 1 0 ((List.replicate m27 (0:Int)).map G1))])] J3 (by kernel_rfl) rfl rfl ?_
  refine G5d (u:=OW 1093 4 G2.av s17) G ⟨.ro G G (Gh (G4 G G) G),.ro G G (Gh (G4 G G) G),ø⟩ ?_ G
  refine G5d (u:=En s17.length) G ⟨.ro G G (Gh (Jp (f:=G2.av) (xs:=s17) H8 G G) G),.ro G G (Gh (Jp (f:=G2.av) (xs:=s17) H8 G G) G),ø⟩ ?_ G
  refine G5d (u:=.vec 1096 0 1 ((List.replicate m25 (0:Int)).length)) G ⟨.w [1021,1093,1096] G G (Gh (G88 1096 (f:=G1) (n:=m25) 0 [.int .i64 0] G G G G Gt G08 G3e (Jt hm25) (Jt hm25) ha26 ⟨.inl G,ø⟩ G) G) G G ⟨G,G,G,ø⟩,.w [1021,1093,1097,1096] G G (Gh (G88 1096 (f:=G1) (n:=m25) 0 [.int .i64 0] G G G G Gt G08 G3e (Jt hm25) (Jt hm25) ha26 ⟨.inl G,ø⟩ G) G) G G ⟨G,G,G,G,ø⟩,ø⟩ ?_ G
  refine G5d (u:=OW 1093 4 G2.av s17) G ⟨.ro G G (Gh (G4 G G) G),.ro G G (Gh (G4 G G) G),ø⟩ ?_ G
  refine G5d (u:=En s17.length) G ⟨.ro G G (Gh (Jp (f:=G2.av) (xs:=s17) H8 G G) G),.ro G G (Gh (Jp (f:=G2.av) (xs:=s17) H8 G G) G),ø⟩ ?_ G
  refine G5d (u:=.vec 1097 0 1 ((List.replicate m27 (0:Int)).length)) G ⟨.w [1021,1093,1097] G G (Gh (G88 1097 (f:=G1) (n:=m27) 0 [.int .i64 0] G G G G Gt G08 G3e (Jt hm27) (Jt hm27) ha28 ⟨.inl G,ø⟩ G) G) G G ⟨G,G,G,ø⟩,.w [1021,1093,1096,1097] G G (Gh (G88 1097 (f:=G1) (n:=m27) 0 [.int .i64 0] G G G G Gt G08 G3e (Jt hm27) (Jt hm27) ha28 ⟨.inl G,ø⟩ G) G) G G ⟨G,G,G,G,ø⟩,ø⟩ ?_ G
  refine G5d (u:=.vec 1096 0 1 ((List.replicate m25 (0:Int)).length)) G ⟨.ro G G (Gh (G8 G G) G),.ro G G (Gh (G8 G G) G),ø⟩ ?_ G
  refine G5d (u:=.vec 1097 0 1 ((List.replicate m27 (0:Int)).length)) G ⟨.ro G G (Gh (G8 G G) G),ø⟩ ?_ G
  refine Q14 (hK24 _ _ (G5 fun K29 hK29=>G3 (JLh (G1 (-1)) (G8 G G) G (G9 (hK29 _ _ (G5 (fun K30 hK30=>G5 fun K31 hK31=>G3 (JLh (OW 1093 4 G2.av s17) (G4 G G) G (H0 (f:=G2.av) (xs:=s17) H8 G G (fun hm45=>?_) G G G)))))))))
  obtain⟨v32,hv32,h⟩:=Hf h
  refine JLh (G1 v32) (G1e hv32 G G G) G (JLh (G1 v32) (G8 G G) G (G9 (hK31 _ _ (Gn ?_))))
  obtain⟨b33,hb33,h⟩:=G16 h
  refine H7 (fun i33 (s33:Int×Int×(List Int)×(List Int))=>loop b33 i33 s33=some r) (fun i33 s33=>[(5,OW 1093 4 G2.av s17),(8,.vec 1096 0 1 ((List.replicate m25 (0:Int)).length)),(9,.vec 1097 0 1 ((List.replicate m27 (0:Int)).length)),(10,G1 s33.1),(11,G1 s33.2.1)]) (fun i33 s33=>[(1021,.vec 81 4 counts_q (counts.map G2.av)),(1093,.spare 81 4 s17.length s17.length),(1096,.vec 3 1 0 (s33.2.2.1.map G1)),(1097,.vec 3 1 0 (s33.2.2.2.map G1))]) (fun i33=>i33) F ((-1),v32,(List.replicate m25 (0:Int)),(List.replicate m27 (0:Int))) h ⟨(by repeat' constructor),⟨⟨_,rfl,.vec⟩,⟨_,rfl,.same⟩,⟨_,rfl,.vec⟩,⟨_,rfl,.vec⟩,ø⟩,rfl⟩ ?_
  clear h
  intro i33 s33 hi33 K33 e33
  obtain⟨m33,nx33,hm_33,hn33,h⟩:=Zg hi33
  replace h:=H78 hb33 h
  refine G5 (fun K34 hK34=>G5 fun K35 hK35=>G3 (JLh (G1 s33.2.1) (G4 G G) G (JLh (BL (decide (0≤s33.2.1))) (G28 G G G) G (G9 (hK35 _ _ (Gp G (fun hb=>?_) (fun hb=>?_)))))))
  ·
   replace h:=Gy hb h
   refine Gq (hK34 _ _ ?_)
   obtain⟨kj36,hkj36,h⟩:=G40 h
   refine G0b (fun j36:Int×(List Int)×(List Int)=>kj36 j36=some r) (fun j36=>[(5,OW 1093 4 G2.av s17),(8,.vec 1096 0 1 ((List.replicate m25 (0:Int)).length)),(9,.vec 1097 0 1 ((List.replicate m27 (0:Int)).length)),(10,G1 j36.1),(11,G1 s33.2.1)]) (fun j36=>[(1021,.vec 81 4 counts_q (counts.map G2.av)),(1093,.spare 81 4 s17.length s17.length),(1096,.vec 3 1 0 (j36.2.1.map G1)),(1097,.vec 3 1 0 (j36.2.2.map G1))]) (fun Kj36 ej36=>?_) ?_
   ·
    refine Gn (G5 fun K37 hK37=>G3 (JLh (.vec 1097 0 1 ((List.replicate m27 (0:Int)).length)) (G4 G G) G (JLh (G1 s33.2.1) (G4 G G) G ?_)))
    obtain⟨y38,hmy38,hy38,h⟩:=Yj h
    refine JLh (.vptr 1097 0 s33.2.1.toNat 0) (Y5 (f:=G1) (xs:=s33.2.2.2) (y:=y38) G G G G Gt hy38 hmy38) G (Jb (u:=.junk) (G57 (f:=G1) (xs:=s33.2.2.2) (z:=(-1)) Zq G G G G (List.getElem?_eq_some_iff.1 hy38).1 G G G G) (G9 (hK37 _ _ (G5 (fun K39 hK39=>G5 fun K40 hK40=>G3 (JLh (OW 1093 4 G2.av s17) (G4 G G) G (H0 (f:=G2.av) (xs:=s17) H8 G G (fun hm55=>?_) G G G)))))))
    obtain⟨v41,hv41,h⟩:=Hf h
    refine JLh (G1 v41) (G1e hv41 G G G) G (JLh (G1 v41) (G8 G G) G (G9 (hK40 _ _ (Gn ?_))))
    obtain⟨b100,hb100,h⟩:=G16 h
    refine H7 (fun i100 (s100:Int×(List Int)×(List Int))=>loop b100 i100 s100=some r) (fun i100 s100=>[(5,OW 1093 4 G2.av s17),(8,.vec 1096 0 1 ((List.replicate m25 (0:Int)).length)),(9,.vec 1097 0 1 ((List.replicate m27 (0:Int)).length)),(10,G1 s33.1),(11,G1 s33.2.1),(12,G1 s100.1)]) (fun i100 s100=>[(1021,.vec 81 4 counts_q (counts.map G2.av)),(1093,.spare 81 4 s17.length s17.length),(1096,.vec 3 1 0 (s100.2.1.map G1)),(1097,.vec 3 1 0 (s100.2.2.map G1))]) (fun i100=>i100) F (v41,s33.2.2.1,(s33.2.2.2.set s33.2.1.toNat (-1))) h ⟨(by repeat' constructor),⟨⟨_,rfl,.vec⟩,⟨_,rfl,.same⟩,⟨_,rfl,.vec⟩,⟨_,rfl,.vec⟩,ø⟩,rfl⟩ ?_
    clear h
    intro i100 s100 hi100 K100 e100
    obtain⟨m100,nx100,hm_100,hn100,h⟩:=Zg hi100
    replace h:=H78 hb100 h
    refine G5 (fun K101 hK101=>G5 fun K102 hK102=>G3 (JLh (G1 s100.1) (G4 G G) G (JLh (G1 s33.2.1) (G4 G G) G (JLh (BL (decide (s33.2.1 < s100.1))) (Ya G G G) G (G9 (hK102 _ _ (Gp G (fun hb=>?_) (fun hb=>?_))))))))
    ·
     replace h:=Gy hb h
     refine Gq (hK101 _ _ ?_)
     obtain⟨kj103,hkj103,h⟩:=G40 h
     refine G0b (fun j103:(List Int)×(List Int)=>kj103 j103=some r) (fun j103=>[(5,OW 1093 4 G2.av s17),(8,.vec 1096 0 1 ((List.replicate m25 (0:Int)).length)),(9,.vec 1097 0 1 ((List.replicate m27 (0:Int)).length)),(10,G1 s33.1),(11,G1 s33.2.1),(12,G1 s100.1)]) (fun j103=>[(1021,.vec 81 4 counts_q (counts.map G2.av)),(1093,.spare 81 4 s17.length s17.length),(1096,.vec 3 1 0 (j103.1.map G1)),(1097,.vec 3 1 0 (j103.2.map G1))]) (fun Kj103 ej103=>?_) ?_
     ·
      refine Gn (G5 (fun K104 hK104=>Z9 (l':=[(5,OW 1093 4 G2.av s17),(8,.vec 1096 0 1 ((List.replicate m25 (0:Int)).length)),(9,.vec 1097 0 1 ((List.replicate m27 (0:Int)).length)),(10,G1 s33.1),(11,G1 s33.2.1),(12,G1 s100.1)]) (L':=[(1021,.vec 81 4 counts_q (counts.map G2.av)),(1093,.spare 81 4 s17.length s17.length),(1096,.vec 3 1 0 (s100.2.1.map G1)),(1097,.vec 3 1 0 (s100.2.2.map G1))]) ⟨(by repeat' constructor),⟨⟨_,rfl,.vec⟩,⟨_,rfl,.same⟩,⟨_,rfl,.vec⟩,⟨_,rfl,.vec⟩,ø⟩,rfl⟩ ?_))
      obtain⟨m106,y105,hm106,hy105,h⟩:=Q6 h
      obtain⟨m108,y107,hm108,hy107,h⟩:=Q6 h
      obtain⟨y109,hy109,h⟩:=Gf h
      obtain⟨y110,hy110,h⟩:=Gf h
      obtain⟨y111,hy111,h⟩:=Gf h
      obtain⟨y112,hy112,h⟩:=Gf h
      refine Jc [] [0,0,0,0,0,0,0,0,0,0,0,0,0,0,0,0,0,0,0,0,0,0,0,0,0,0,0,0,0,0,0,0,0,0,0,0,0,0,0] [0,0,0,0,0,0,0,0,0,0,0,0,0,0,0,0,0,0,0,0,0,0,0,0,0,0,0,0,0,0,0,0,0,0,0,0,0,0,0] [[(1021,.vec 81 4 counts_q (counts.map G2.av)),(1093,.spare 81 4 s17.length s17.length),(1096,.vec 3 1 0 (s100.2.1.map G1)),(1097,.vec 3 1 0 (s100.2.2.map G1))]] J3 (by kernel_rfl) rfl rfl ?_
      refine Gb (u:=OW 1093 4 G2.av s17) G G ⟨Gh (G4 G G) G,ø⟩ (Gb (u:=G1 s100.1) G G ⟨Gh (G4 G G) G,ø⟩ (Gb (u:=Ee y105) G G ⟨Gh (Gv (f:=G2.av) (xs:=s17) (y:=y105) G G G H8 hy105 hm106) G,ø⟩ (Gb (u:=Ee y105) G G ⟨Gh (Ge Ju G G G) G,ø⟩ (Gb (u:=Ee y105) G G ⟨Gh (Ge Jv G G G) G,ø⟩ (Gb (u:=G1 y105.G6.Load) G G ⟨Gh (Gk Gc G G G) G,ø⟩ (Gb (u:=OW 1093 4 G2.av s17) G G ⟨Gh (G4 G G) G,ø⟩ (Gb (u:=G1 s33.2.1) G G ⟨Gh (G4 G G) G,ø⟩ (Gb (u:=Ee y107) G G ⟨Gh (Gv (f:=G2.av) (xs:=s17) (y:=y107) G G G H8 hy107 hm108) G,ø⟩ (Gb (u:=Ee y107) G G ⟨Gh (Ge Ju G G G) G,ø⟩ (Gb (u:=Ee y107) G G ⟨Gh (Ge Jv G G G) G,ø⟩ (Gb (u:=G1 y107.G6.Load) G G ⟨Gh (Gk Gc G G G) G,ø⟩ (Gb (u:=BL (decide (y107.G6.Load < y105.G6.Load))) G G ⟨Gh (Ya G G G) G,ø⟩ (Gb (u:=BL (decide (y107.G6.Load < y105.G6.Load))) G G ⟨Gh (G4 G G) G,ø⟩ ?_)))))))))))))
      refine Gb (u:=.opt (decide (y107.G6.Load < y105.G6.Load)) (OW 1093 4 G2.av s17)) G G ⟨Gg [] G G G .sct ø (fun hc=>G4 G G) G,ø⟩ (Gb (u:=.opt (decide (y107.G6.Load < y105.G6.Load)) (G1 s100.1)) G G ⟨Gg [] G G G .sct ø (fun hc=>G4 G G) G,ø⟩ (Gb (u:=.opt (decide (y107.G6.Load < y105.G6.Load)) (Ee y109)) G G ⟨Gg [(76,OW 1093 4 G2.av s17),(77,G1 s100.1)] G G G .sct ⟨.all id,.all id,ø⟩ (fun hc=>(match Q2 (Gy hc hy109) with | ⟨_,hm_,hy_⟩=>Gv (f:=G2.av) (xs:=s17) (y:=y109) G G G H8 hy_ hm_)) G,ø⟩ (Gb (u:=.opt (decide (y107.G6.Load < y105.G6.Load)) (Ee y109)) G G ⟨Gg [(78,Ee y109)] G G G .sct ⟨.all id,ø⟩ (fun hc=>Ge Ju G G G) G,ø⟩ (Gb (u:=.opt (decide (y107.G6.Load < y105.G6.Load)) (.dptr ((G2.cs y109).drop 1))) G G ⟨Gg [(79,Ee y109)] G G G .sct ⟨.all id,ø⟩ (fun hc=>Ge Qb G G G) G,ø⟩ (Gb (u:=.opt (decide (y107.G6.Load < y105.G6.Load)) (G1 y109.G6.Discharge)) G G ⟨Gg [(80,.dptr ((G2.cs y109).drop 1))] G G G .sct ⟨.all id,ø⟩ (fun hc=>Gk Gc G G G) G,ø⟩ (Gb (u:=.opt (decide (y107.G6.Load < y105.G6.Load)) (OW 1093 4 G2.av s17)) G G ⟨Gg [] G G G .sct ø (fun hc=>G4 G G) G,ø⟩ (Gb (u:=.opt (decide (y107.G6.Load < y105.G6.Load)) (G1 s33.2.1)) G G ⟨Gg [] G G G .sct ø (fun hc=>G4 G G) G,ø⟩ (Gb (u:=.opt (decide (y107.G6.Load < y105.G6.Load)) (Ee y110)) G G ⟨Gg [(82,OW 1093 4 G2.av s17),(83,G1 s33.2.1)] G G G .sct ⟨.all id,.all id,ø⟩ (fun hc=>(match Q2 (Gy hc hy110) with | ⟨_,hm_,hy_⟩=>Gv (f:=G2.av) (xs:=s17) (y:=y110) G G G H8 hy_ hm_)) G,ø⟩ (Gb (u:=.opt (decide (y107.G6.Load < y105.G6.Load)) (Ee y110)) G G ⟨Gg [(84,Ee y110)] G G G .sct ⟨.all id,ø⟩ (fun hc=>Ge Ju G G G) G,ø⟩ (Gb (u:=.opt (decide (y107.G6.Load < y105.G6.Load)) (.dptr ((G2.cs y110).drop 1))) G G ⟨Gg [(85,Ee y110)] G G G .sct ⟨.all id,ø⟩ (fun hc=>Ge Qb G G G) G,ø⟩ (Gb (u:=.opt (decide (y107.G6.Load < y105.G6.Load)) (G1 y110.G6.Discharge)) G G ⟨Gg [(86,.dptr ((G2.cs y110).drop 1))] G G G .sct ⟨.all id,ø⟩ (fun hc=>Gk Gc G G G) G,ø⟩ (Gb (u:=.opt (decide (y107.G6.Load < y105.G6.Load)) (BL (decide (y110.G6.Discharge < y109.G6.Discharge)))) G G ⟨Gg [(81,G1 y109.G6.Discharge),(87,G1 y110.G6.Discharge)] G G G .sct ⟨.all id,.all id,ø⟩ (fun hc=>Ya G G G) G,ø⟩ (Gb (u:=BL ((decide (y107.G6.Load < y105.G6.Load))&&(decide (y110.G6.Discharge < y109.G6.Discharge)))) G G ⟨Gh (J7 G G G G) G,ø⟩ ?_)))))))))))))
      refine Gb (u:=BL ((decide (y107.G6.Load < y105.G6.Load))&&(decide (y110.G6.Discharge < y109.G6.Discharge)))) G G ⟨Gh (G4 G G) G,ø⟩ (Gb (u:=.opt ((decide (y107.G6.Load < y105.G6.Load))&&(decide (y110.G6.Discharge < y109.G6.Discharge))) (.vec 1096 0 1 ((List.replicate m25 (0:Int)).length))) G G ⟨Gg [] G G G .sct ø (fun hc=>G4 G G) G,ø⟩ (Gb (u:=.opt ((decide (y107.G6.Load < y105.G6.Load))&&(decide (y110.G6.Discharge < y109.G6.Discharge))) (G1 s100.1)) G G ⟨Gg [] G G G .sct ø (fun hc=>G4 G G) G,ø⟩ (Gb (u:=.opt ((decide (y107.G6.Load < y105.G6.Load))&&(decide (y110.G6.Discharge < y109.G6.Discharge))) (.vptr 1096 0 s100.1.toNat 0)) G G ⟨Gg [(91,.vec 1096 0 1 ((List.replicate m25 (0:Int)).length)),(92,G1 s100.1)] G G G .sct ⟨.all id,.all id,ø⟩ (fun hc=>Y5 (f:=G1) (xs:=s100.2.1) (y:=y111) G G G G Gt (Ru (Gy hc hy111)) (G4d (Gy hc hy111))) G,ø⟩ (Gb (u:=.opt ((decide (y107.G6.Load < y105.G6.Load))&&(decide (y110.G6.Discharge < y109.G6.Discharge))) (G1 y111)) G G ⟨Gg [(93,.vptr 1096 0 s100.1.toNat 0)] G G G .sct ⟨.all id,ø⟩ (fun hc=>G13 (f:=G1) (xs:=s100.2.1) (y:=y111) Gc G G G (Ru (Gy hc hy111)) G G) G,ø⟩ (Gb (u:=.opt ((decide (y107.G6.Load < y105.G6.Load))&&(decide (y110.G6.Discharge < y109.G6.Discharge))) (.vec 1096 0 1 ((List.replicate m25 (0:Int)).length))) G G ⟨Gg [] G G G .sct ø (fun hc=>G4 G G) G,ø⟩ (Gb (u:=.opt ((decide (y107.G6.Load < y105.G6.Load))&&(decide (y110.G6.Discharge < y109.G6.Discharge))) (G1 s33.2.1)) G G ⟨Gg [] G G G .sct ø (fun hc=>G4 G G) G,ø⟩ (Gb (u:=.opt ((decide (y107.G6.Load < y105.G6.Load))&&(decide (y110.G6.Discharge < y109.G6.Discharge))) (.vptr 1096 0 s33.2.1.toNat 0)) G G ⟨Gg [(95,.vec 1096 0 1 ((List.replicate m25 (0:Int)).length)),(96,G1 s33.2.1)] G G G .sct ⟨.all id,.all id,ø⟩ (fun hc=>Y5 (f:=G1) (xs:=s100.2.1) (y:=y112) G G G G Gt (Ru (Gy hc hy112)) (G4d (Gy hc hy112))) G,ø⟩ (Gb (u:=.opt ((decide (y107.G6.Load < y105.G6.Load))&&(decide (y110.G6.Discharge < y109.G6.Discharge))) (G1 y112)) G G ⟨Gg [(97,.vptr 1096 0 s33.2.1.toNat 0)] G G G .sct ⟨.all id,ø⟩ (fun hc=>G13 (f:=G1) (xs:=s100.2.1) (y:=y112) Gc G G G (Ru (Gy hc hy112)) G G) G,ø⟩ (Gb (u:=.opt ((decide (y107.G6.Load < y105.G6.Load))&&(decide (y110.G6.Discharge < y109.G6.Discharge))) (BL (decide (y112≤y111)))) G G ⟨Gg [(94,G1 y111),(98,G1 y112)] G G G .sct ⟨.all id,.all id,ø⟩ (fun hc=>G28 G G G) G,ø⟩ (Gb (u:=BL (((decide (y107.G6.Load < y105.G6.Load))&&(decide (y110.G6.Discharge < y109.G6.Discharge)))&&(decide (y112≤y111)))) G G ⟨Gh (J7 G G G G) G,ø⟩ (Rb ?_)))))))))))
      refine hK104 _ _ (Gp G (fun hb=>?_) (fun hb=>?_))
      ·
       replace h:=Gy hb h
       refine G3 (JLh (.vec 1096 0 1 ((List.replicate m25 (0:Int)).length)) (G4 G G) G (JLh (G1 s33.2.1) (G4 G G) G (JLh (.vec 1097 0 1 ((List.replicate m27 (0:Int)).length)) (G4 G G) G (JLh (G1 s33.2.1) (G4 G G) G (JLh (.vec 1096 0 1 ((List.replicate m25 (0:Int)).length)) (G4 G G) G (JLh (G1 s100.1) (G4 G G) G ?_))))))
       obtain⟨y113,hmy113,hy113,h⟩:=Yj h
       refine JLh (.vptr 1096 0 s100.1.toNat 0) (Y5 (f:=G1) (xs:=s100.2.1) (y:=y113) G G G G Gt hy113 hmy113) G (JLh (G1 y113) (G13 (f:=G1) (xs:=s100.2.1) (y:=y113) Gc G G G hy113 G G) G (JLh (G1 s100.1) (G4 G G) G ?_))
       obtain⟨y114,hmy114,hy114,h⟩:=Yj h
       refine JLh (.vptr 1096 0 s33.2.1.toNat 0) (Y5 (f:=G1) (xs:=s100.2.1) (y:=y114) G G G G Gt hy114 hmy114) G (Jb (u:=.junk) (G57 (f:=G1) (xs:=s100.2.1) (z:=y113) Zq G G G G (List.getElem?_eq_some_iff.1 hy114).1 G G G G) ?_)
       obtain⟨y115,hmy115,hy115,h⟩:=Yj h
       refine JLh (.vptr 1097 0 s33.2.1.toNat 0) (Y5 (f:=G1) (xs:=s100.2.2) (y:=y115) G G G G Gt hy115 hmy115) G (Jb (u:=.junk) (G57 (f:=G1) (xs:=s100.2.2) (z:=s100.1) Zq G G G G (List.getElem?_eq_some_iff.1 hy115).1 G G G G) (G9 (ej103 _ _ ((s100.2.1.set s33.2.1.toNat y113),(s100.2.2.set s33.2.1.toNat s100.1)) h ⟨(by repeat' constructor),⟨⟨_,rfl,.vec⟩,⟨_,rfl,.same⟩,⟨_,rfl,.vec⟩,⟨_,rfl,.vec⟩,ø⟩,rfl⟩)))
      ·
       replace h:=Hp hb h
       refine Gq (ej103 _ _ (s100.2.1,s100.2.2) h ⟨(by repeat' constructor),⟨⟨_,rfl,.vec⟩,⟨_,rfl,.same⟩,⟨_,rfl,.vec⟩,⟨_,rfl,.vec⟩,ø⟩,rfl⟩)
     ·intro j103 h
      replace h:=app1 hkj103 h
      refine G3 (JLh (G1 s100.1) (G4 G G) G ?_)
      obtain⟨v116,hv116,h⟩:=Hf h
      refine JLh (G1 v116) (G1e hv116 G G G) G (JLh (G1 v116) (G8 G G) G (G9 (e100 _ _ m100 (v116,j103.1,j103.2) (app1 hn100 h) (by omega) ⟨(by repeat' constructor),⟨⟨_,rfl,.vec⟩,⟨_,rfl,.same⟩,⟨_,rfl,.vec⟩,⟨_,rfl,.vec⟩,ø⟩,rfl⟩)))
    ·
     replace h:=Hp hb h
     refine Hc (hK39 _ _ (G5 (fun K117 hK117=>Z9 (l':=[(5,OW 1093 4 G2.av s17),(8,.vec 1096 0 1 ((List.replicate m25 (0:Int)).length)),(9,.vec 1097 0 1 ((List.replicate m27 (0:Int)).length)),(10,G1 s33.1),(11,G1 s33.2.1)]) (L':=[(1021,.vec 81 4 counts_q (counts.map G2.av)),(1093,.spare 81 4 s17.length s17.length),(1096,.vec 3 1 0 (s100.2.1.map G1)),(1097,.vec 3 1 0 (s100.2.2.map G1))]) ⟨(by repeat' constructor),⟨⟨_,rfl,.vec⟩,⟨_,rfl,.same⟩,⟨_,rfl,.vec⟩,⟨_,rfl,.vec⟩,ø⟩,rfl⟩ ?_)))
     obtain⟨y118,hmy118,hy118,h⟩:=Yj h
     obtain⟨m120,y119,hm120,hy119,h⟩:=Q6 h
     obtain⟨r121,hr121,h⟩:=Gf h
     obtain⟨v122,hv122,h⟩:=Hf h
     obtain⟨y123,hmy123,hy123,h⟩:=Yj h
     refine Jc [11] [0,0,0,0,0,0,0,0,0,0,0,0] [0,0,0,0,0,0,0,0,0,0,0,0] [[(1021,.vec 81 4 counts_q (counts.map G2.av)),(1093,.spare 81 4 s17.length s17.length),(1096,.vec 3 1 0 (s100.2.1.map G1)),(1097,.vec 3 1 0 (s100.2.2.map G1))],((1096,.vec 3 1 0 ((s100.2.1.set s33.2.1.toNat v122).map G1))::[(1021,.vec 81 4 counts_q (counts.map G2.av)),(1093,.spare 81 4 s17.length s17.length),(1096,.vec 3 1 0 (s100.2.1.map G1)),(1097,.vec 3 1 0 (s100.2.2.map G1))])] J3 (by kernel_rfl) rfl rfl ?_
     refine Gb (u:=.vec 1096 0 1 ((List.replicate m25 (0:Int)).length)) G G ⟨Gh (G4 G G) G,ø⟩ (Gb (u:=G1 s33.2.1) G G ⟨Gh (G4 G G) G,ø⟩ (Gb (u:=.vptr 1096 0 s33.2.1.toNat 0) G G ⟨Gh (Y5 (f:=G1) (xs:=s100.2.1) (y:=y118) G G G G Gt hy118 hmy118) G,ø⟩ (Gb (u:=G1 y118) G G ⟨Gh (G13 (f:=G1) (xs:=s100.2.1) (y:=y118) Gc G G G hy118 G G) G,ø⟩ (Gb (u:=OW 1093 4 G2.av s17) G G ⟨Gh (G4 G G) G,ø⟩ (Gb (u:=G1 s33.2.1) G G ⟨Gh (G4 G G) G,ø⟩ (Gb (u:=Ee y119) G G ⟨Gh (Gv (f:=G2.av) (xs:=s17) (y:=y119) G G G H8 hy119 hm120) G,ø⟩ (Gb (u:=.agg (G2.cs y119)) G G ⟨Gh (Gi R0 G G G) G,ø⟩ (Gb (u:=G1 r121) G G ⟨Gh (Gs (args:=[.agg (G2.cs y119)]) G (H54 y119 r121 hr121) J23 ⟨G,G,ø⟩) G,ø⟩ (Gb (u:=G1 v122) G G ⟨Gh (Hj hv122 G G G) G,ø⟩ (Gb (u:=.vptr 1096 0 s33.2.1.toNat 0) G G ⟨Gh (Y5 (f:=G1) (xs:=s100.2.1) (y:=y123) G G G G Gt hy123 hmy123) G,ø⟩ ?_))))))))))
     refine Jbc (u:=.junk) G G G G (Gh (G57 (f:=G1) (xs:=s100.2.1) (z:=v122) Zq G G G G (List.getElem?_eq_some_iff.1 hy123).1 G G G G) G) (Rb (hK117 _ _ (G5 (fun K124 hK124=>Z9 (l':=[(5,OW 1093 4 G2.av s17),(8,.vec 1096 0 1 ((List.replicate m25 (0:Int)).length)),(9,.vec 1097 0 1 ((List.replicate m27 (0:Int)).length)),(10,G1 s33.1),(11,G1 s33.2.1)]) (L':=[(1021,.vec 81 4 counts_q (counts.map G2.av)),(1093,.spare 81 4 s17.length s17.length),(1096,.vec 3 1 0 ((s100.2.1.set s33.2.1.toNat v122).map G1)),(1097,.vec 3 1 0 (s100.2.2.map G1))]) ⟨(by repeat' constructor),⟨⟨_,rfl,.vec⟩,⟨_,rfl,.same⟩,⟨_,rfl,.vec⟩,⟨_,rfl,.vec⟩,ø⟩,rfl⟩ ?_))))
     obtain⟨y125,hy125,h⟩:=Gf h
     obtain⟨y126,hy126,h⟩:=Gf h
     refine Jc [] [0,0,0,0,0,0,0,0,0,0,0,0,0] [0,0,0,0,0,0,0,0,0,0,0,0,0] [[(1021,.vec 81 4 counts_q (counts.map G2.av)),(1093,.spare 81 4 s17.length s17.length),(1096,.vec 3 1 0 ((s100.2.1.set s33.2.1.toNat v122).map G1)),(1097,.vec 3 1 0 (s100.2.2.map G1))]] J3 (by kernel_rfl) rfl rfl ?_
     refine Gb (u:=G1 s33.1) G G ⟨Gh (G4 G G) G,ø⟩ (Gb (u:=BL (decide (s33.1 < 0))) G G ⟨Gh (Hx G G G) G,ø⟩ (Gb (u:=BL (decide (s33.1 < 0))) G G ⟨Gh (G4 G G) G,ø⟩ (Gb (u:=.opt (!(decide (s33.1 < 0))) (.vec 1096 0 1 ((List.replicate m25 (0:Int)).length))) G G ⟨Gg [] G G G .scf ø (fun hc=>G4 G G) G,ø⟩ (Gb (u:=.opt (!(decide (s33.1 < 0))) (G1 s33.2.1)) G G ⟨Gg [] G G G .scf ø (fun hc=>G4 G G) G,ø⟩ (Gb (u:=.opt (!(decide (s33.1 < 0))) (.vptr 1096 0 s33.2.1.toNat 0)) G G ⟨Gg [(126,.vec 1096 0 1 ((List.replicate m25 (0:Int)).length)),(127,G1 s33.2.1)] G G G .scf ⟨.all id,.all id,ø⟩ (fun hc=>Y5 (f:=G1) (xs:=(s100.2.1.set s33.2.1.toNat v122)) (y:=y125) G G G G Gt (Ru (Gy hc hy125)) (G4d (Gy hc hy125))) G,ø⟩ (Gb (u:=.opt (!(decide (s33.1 < 0))) (G1 y125)) G G ⟨Gg [(128,.vptr 1096 0 s33.2.1.toNat 0)] G G G .scf ⟨.all id,ø⟩ (fun hc=>G13 (f:=G1) (xs:=(s100.2.1.set s33.2.1.toNat v122)) (y:=y125) Gc G G G (Ru (Gy hc hy125)) G G) G,ø⟩ (Gb (u:=.opt (!(decide (s33.1 < 0))) (.vec 1096 0 1 ((List.replicate m25 (0:Int)).length))) G G ⟨Gg [] G G G .scf ø (fun hc=>G4 G G) G,ø⟩ (Gb (u:=.opt (!(decide (s33.1 < 0))) (G1 s33.1)) G G ⟨Gg [] G G G .scf ø (fun hc=>G4 G G) G,ø⟩ (Gb (u:=.opt (!(decide (s33.1 < 0))) (.vptr 1096 0 s33.1.toNat 0)) G G ⟨Gg [(130,.vec 1096 0 1 ((List.replicate m25 (0:Int)).length)),(131,G1 s33.1)] G G G .scf ⟨.all id,.all id,ø⟩ (fun hc=>Y5 (f:=G1) (xs:=(s100.2.1.set s33.2.1.toNat v122)) (y:=y126) G G G G Gt (Ru (Gy hc hy126)) (G4d (Gy hc hy126))) G,ø⟩ (Gb (u:=.opt (!(decide (s33.1 < 0))) (G1 y126)) G G ⟨Gg [(132,.vptr 1096 0 s33.1.toNat 0)] G G G .scf ⟨.all id,ø⟩ (fun hc=>G13 (f:=G1) (xs:=(s100.2.1.set s33.2.1.toNat v122)) (y:=y126) Gc G G G (Ru (Gy hc hy126)) G G) G,ø⟩ (Gb (u:=.opt (!(decide (s33.1 < 0))) (BL (decide (y126≤y125)))) G G ⟨Gg [(129,G1 y125),(133,G1 y126)] G G G .scf ⟨.all id,.all id,ø⟩ (fun hc=>G28 G G G) G,ø⟩ (Gb (u:=BL ((decide (s33.1 < 0))||(decide (y126≤y125)))) G G ⟨Gh (Z5 G G G G) G,ø⟩ (Rb ?_)))))))))))))
     refine hK124 _ _ (Gp G (fun hb=>?_) (fun hb=>?_))
     ·
      replace h:=Gy hb h
      refine G3 (JLh (G1 s33.2.1) (G4 G G) G (JLh (G1 s33.2.1) (G8 G G) G (G9 (ej36 _ _ (s33.2.1,(s100.2.1.set s33.2.1.toNat v122),s100.2.2) h ⟨(by repeat' constructor),⟨⟨_,rfl,.vec⟩,⟨_,rfl,.same⟩,⟨_,rfl,.vec⟩,⟨_,rfl,.vec⟩,ø⟩,rfl⟩))))
     ·
      replace h:=Hp hb h
      refine Gq (ej36 _ _ (s33.1,(s100.2.1.set s33.2.1.toNat v122),s100.2.2) h ⟨(by repeat' constructor),⟨⟨_,rfl,.vec⟩,⟨_,rfl,.same⟩,⟨_,rfl,.vec⟩,⟨_,rfl,.vec⟩,ø⟩,rfl⟩)
   ·intro j36 h
    replace h:=app1 hkj36 h
    refine G3 (JLh (G1 s33.2.1) (G4 G G) G ?_)
    obtain⟨v127,hv127,h⟩:=Hf h
    refine JLh (G1 v127) (G1e hv127 G G G) G (JLh (G1 v127) (G8 G G) G (G9 (e33 _ _ m33 (j36.1,v127,j36.2.1,j36.2.2) (app1 hn33 h) (by omega) ⟨(by repeat' constructor),⟨⟨_,rfl,.vec⟩,⟨_,rfl,.same⟩,⟨_,rfl,.vec⟩,⟨_,rfl,.vec⟩,ø⟩,rfl⟩)))
  ·
   replace h:=Hp hb h
   refine Hc (hK30 _ _ (G5 fun K128 hK128=>G3 (JLh (OW 1095 4 G2.av ([]:List G2)) (G89 1095 81 4 G G G) G (G9 (hK128 _ _ (G5 (fun K129 hK129=>G5 fun K130 hK130=>G3 (JLh (G1 s33.1) (G4 G G) G (JLh (G1 s33.1) (G8 G G) G (G9 (hK130 _ _ (Gn ?_))))))))))))
   obtain⟨b142,hb142,h⟩:=G16 h
   refine H7 (fun i142 (s142:(List G2)×Int)=>loop b142 i142 s142=some r) (fun i142 s142=>[(5,OW 1093 4 G2.av s17),(9,.vec 1097 0 1 ((List.replicate m27 (0:Int)).length)),(13,OW 1095 4 G2.av s142.1),(14,G1 s142.2)]) (fun i142 s142=>[(1021,.vec 81 4 counts_q (counts.map G2.av)),(1093,.spare 81 4 s17.length s17.length),(1096,.vec 3 1 0 (s33.2.2.1.map G1)),(1097,.vec 3 1 0 (s33.2.2.2.map G1)),(1095,.spare 81 4 s142.1.length s142.1.length)]) (fun i142=>i142) F ([],s33.1) h ⟨(by repeat' constructor),⟨⟨_,rfl,.vec⟩,⟨_,rfl,.same⟩,⟨_,rfl,.vec⟩,⟨_,rfl,.vec⟩,⟨_,rfl,.same⟩,ø⟩,rfl⟩ ?_
   clear h
   intro i142 s142 hi142 K142 e142
   obtain⟨m142,nx142,hm_142,hn142,h⟩:=Zg hi142
   replace h:=H78 hb142 h
   refine G5 (fun K143 hK143=>G5 fun K144 hK144=>G3 (JLh (G1 s142.2) (G4 G G) G (JLh (BL (decide (0≤s142.2))) (G28 G G G) G (G9 (hK144 _ _ (Gp G (fun hb=>?_) (fun hb=>?_)))))))
   ·
    replace h:=Gy hb h
    refine Gq (hK143 _ _ (G5 (fun K145 hK145=>Gn (G3 (JLh (OW 1095 4 G2.av s142.1) (G4 G G) G (JLh (OW 1093 4 G2.av s17) (G4 G G) G (JLh (G1 s142.2) (G4 G G) G ?_)))))))
    obtain⟨m147,y146,hm147,hy146,h⟩:=Q6 h
    refine JLh (Ee y146) (Gv (f:=G2.av) (xs:=s17) (y:=y146) G G G H8 hy146 hm147) G (JLh (.agg (G2.cs y146)) (Gi R0 G G G) G (JLh (E3 [y146]) (Hs (xs:=[.agg (G2.cs y146)]) G ⟨G,G,ø⟩ H8 R9 G G G G) G ?_))
    obtain⟨ha148,h⟩:=Hr h
    refine JLh (OW 1095 4 G2.av (s142.1++[y146])) (Qx (f:=G2.av) (xs:=s142.1) (ys:=[y146]) G G G G H8 G94 ha148 (fun _=>G) (.inl G) G) G (JLh (OW 1095 4 G2.av (s142.1++[y146])) (G8 G G) G (G9 (hK145 _ _ (G3 (JLh (.vec 1097 0 1 ((List.replicate m27 (0:Int)).length)) (G4 G G) G (JLh (G1 s142.2) (G4 G G) G ?_))))))
    obtain⟨y149,hmy149,hy149,h⟩:=Yj h
    refine JLh (.vptr 1097 0 s142.2.toNat 0) (Y5 (f:=G1) (xs:=s33.2.2.2) (y:=y149) G G G G Gt hy149 hmy149) G (JLh (G1 y149) (G13 (f:=G1) (xs:=s33.2.2.2) (y:=y149) Gc G G G hy149 G G) G (JLh (G1 y149) (G8 G G) G (G9 (e142 _ _ m142 ((s142.1++[y146]),y149) (app1 hn142 h) (by omega) ⟨(by repeat' constructor),⟨⟨_,rfl,.vec⟩,⟨_,rfl,.same⟩,⟨_,rfl,.vec⟩,⟨_,rfl,.vec⟩,⟨_,rfl,.same⟩,ø⟩,rfl⟩))))
   ·
    replace h:=Hp hb h
    refine Hc (hK129 _ _ (G5 fun K150 hK150=>G3 (JLh (OW 1095 4 G2.av s142.1) (G4 G G) G (JLh (OW 1095 4 G2.av s142.1) (G8 G G) G (G9 (hK150 _ _ (Gx ?_)))))))
    obtain rfl:=Option.some.inj h
    exact⟨[E3 s142.1],[(1021,.vec 81 4 counts_q (counts.map G2.av))],⟨⟨_,G,.vec⟩,ø⟩,G,⟨⟨_,G,.conv (.list G)⟩,ø⟩,G,G⟩

def Zr (F:Nat) (s:List G2) (del:G2→Option Bool):Option (List G2):=
 bnd (Ra s del) fun r3=>
 bif decide (r3=(-1)) then
 (some s)
 else
 (Rm (r3+1) fun v9=>
  loop (fun nx48 (s48:Int×Int×(List G2))=>
   bif decide (s48.2.1 < (s48.2.2.length:Int)) then
   (jp (fun kj51=>
     Qe s48.2.2 s48.2.1 fun y53=>
     bnd (del y53) fun r55=>
     bif (!r55) then
     (Qe s48.2.2 s48.1 fun y57=>
      Rm (s48.1+1) fun v58=>
      kj51 (v58,(s48.2.2.set s48.1.toNat y53)))
     else
     (kj51 (s48.1,s48.2.2))) fun(j51:Int×(List G2))=>
    Rm (s48.2.1+1) fun v59=>
    nx48 (j51.1,v59,j51.2))
   else
   (bnd (G10 s48.1 s48.2.2.length) fun m61=>
    bnd (G10 s48.1 (blank s48.2.2 m61 (s48.2.2.length - m61) (G2.mk (G6.mk 0 0) 0 0)).length) fun m63=>
    some ((blank s48.2.2 m61 (s48.2.2.length - m61) (G2.mk (G6.mk 0 0) 0 0)).take m63))) F (r3,v9,s))
theorem G51 (F:Nat) (s:List G2) (s_q:Nat) (del:G2→Option Bool) (del_f:FuncId) (del_c:List AV) (del_B:Hn Tryz.prog del_f=true) (del_d:G0a (fun _=>false) del_c=true) (del_w:∀ a0 q,del a0=some q→Pure Tryz.prog del_f ([.agg (G2.cs a0)]++del_c) (·=BL q)) (r:(List G2)) (h:Zr F s del=some r):Za Tryz.prog 120 [.vec 1021 s_q 4 s.length,.fn del_f del_c] [(1021,.vec 81 4 s_q (s.map G2.av))] (fun av L'=>∃ p:Nat,av=.vec 1021 p 4 r.length∧L'=[(1021,.vec 81 4 p (r.map G2.av))]):=by
 unfold Zr at h
 refine Gc4 [1021] [.tmp 4] Tryz.func120 G G (inAll G) (G5 fun K1 hK1=>G3 (JLh (.vec 1098 (([]:List G2).length) 4 (([]:List G2).length)) (Jab 1098 81 4 G G G) G (G9 (hK1 _ _ (G5 fun K2 hK2=>G3 (JLh (.vec 1021 s_q 4 s.length) (G4 G G) G (JLh (.fn del_f del_c) (G4 G G) G ?_)))))))
 obtain⟨r3,hr3,h⟩:=Gf h
 refine JLh (G1 r3) (Q18 (args:=[E3 s,.fn del_f del_c]) G (G3b s del del_f del_c del_B del_d del_w r3 hr3) J25 ⟨.vec G,.data G del_d,ø⟩ G) G (JLh (G1 r3) (G8 G G) G (G9 (hK2 _ _ (G5 (fun K4 hK4=>G5 fun K5 hK5=>G3 (JLh (G1 r3) (G4 G G) G (JLh (BL (decide (r3=(-1)))) (Rt G G G) G (G9 (hK5 _ _ (Gp G (fun hb=>?_) (fun hb=>?_)))))))))))
 ·
  replace h:=Gy hb h
  refine G5 fun K6 hK6=>G3 (JLh (.vec 1021 s_q 4 s.length) (G4 G G) G (JLh (.vec 1021 s_q 4 s.length) (G8 G G) G (G9 (hK6 _ _ (J64 4 G G (fun hn_=>Gx ?_))))))
  obtain rfl:=Option.some.inj h
  exact⟨[.vec 1021 s_q 4 s.length],[(1021,.vec 81 4 s_q (s.map G2.av))],⟨⟨_,G,.vec⟩,ø⟩,G,⟨⟨_,G,.conv (.same G)⟩,ø⟩,s_q,congrArg (fun n_:Nat=>(.vec 1021 s_q 4 n_:AV)) (hn_.trans (List.length_map _)),G⟩
 ·
  replace h:=Hp hb h
  refine Gq (hK4 _ _ (G5 (fun K7 hK7=>G5 fun K8 hK8=>G3 (JLh (G1 r3) (G4 G G) G ?_))))
  obtain⟨v9,hv9,h⟩:=Hf h
  refine JLh (G1 v9) (Hj hv9 G G G) G (JLh (G1 v9) (G8 G G) G (G9 (hK8 _ _ (Gn ?_))))
  obtain⟨b48,hb48,h⟩:=G16 h
  refine H7 (fun i48 (s48:Int×Int×(List G2))=>loop b48 i48 s48=some r) (fun i48 s48=>[(0,.vec 1021 s_q 4 s.length),(1,.fn del_f del_c),(5,G1 s48.1),(6,G1 s48.2.1)]) (fun i48 s48=>[(1021,.vec 81 4 s_q (s48.2.2.map G2.av)),(1098,.vec 81 4 (([]:List G2).length) (([]:List G2).map G2.av))]) (fun i48=>i48) F (r3,v9,s) h ⟨⟨.same G,.same (Yb _ _ del_d),.same G,.same G,ø⟩,⟨⟨_,G,.vec⟩,⟨_,G,.vec⟩,ø⟩,G⟩ ?_
  clear h
  intro i48 s48 hi48 K48 e48
  obtain⟨m48,nx48,hm_48,hn48,h⟩:=Zg hi48
  replace h:=H78 hb48 h
  refine G5 (fun K49 hK49=>G5 fun K50 hK50=>G3 (JLh (G1 s48.2.1) (G4 G G) G (JLh (.vec 1021 s_q 4 s.length) (G4 G G) G (Hf2 (f:=G2.av) (xs:=s48.2.2) H8 G G G (fun hm18=>?_) G G G))))
  refine JLh (BL (decide (s48.2.1 < (s48.2.2.length:Int)))) (Hx G G G) G (G9 (hK50 _ _ (Gp G (fun hb=>?_) (fun hb=>?_))))
  ·
   replace h:=Gy hb h
   refine Gq (hK49 _ _ ?_)
   obtain⟨kj51,hkj51,h⟩:=G40 h
   refine G0b (fun j51:Int×(List G2)=>kj51 j51=some r) (fun j51=>[(0,.vec 1021 s_q 4 s.length),(1,.fn del_f del_c),(5,G1 j51.1),(6,G1 s48.2.1)]) (fun j51=>[(1021,.vec 81 4 s_q (j51.2.map G2.av)),(1098,.vec 81 4 (([]:List G2).length) (([]:List G2).map G2.av))]) (fun Kj51 ej51=>?_) ?_
   ·
    refine Gn (G5 fun K52 hK52=>G3 (JLh (.vec 1021 s_q 4 s.length) (G4 G G) G (JLh (G1 s48.2.1) (G4 G G) G ?_)))
    obtain⟨y53,hmy53,hy53,h⟩:=Yj h
    refine JLh (.vptr 1021 s_q s48.2.1.toNat 0) (Y5 (f:=G2.av) (xs:=s48.2.2) (y:=y53) G G G G H8 hy53 hmy53) G (JLh (.agg (G2.cs y53)) (J4e (f:=G2.av) (xs:=s48.2.2) (y:=y53) R0 G G G hy53 G G) G (JLh (.ptr 1099 0) (Jn 1099 4 R9 G G) G (Jb (u:=.junk) (J4 (u:=.agg (G2.cs y53)) (ds:=[G1 y53.G6.Load,G1 y53.G6.Discharge,G1 y53.Whole,G1 y53.Half]) G1f G G G G G G G G) (G9 (hK52 _ _ ?_)))))
    refine Gz [(0,.vec 1021 s_q 4 s.length),(1,.fn del_f del_c),(5,G1 s48.1),(6,G1 s48.2.1),(7,Ee y53)] [(1021,.vec 81 4 s_q (s48.2.2.map G2.av)),(1098,.vec 81 4 (([]:List G2).length) (([]:List G2).map G2.av))] 1099 rfl rfl rfl ⟨⟨_,rfl,.vec⟩,⟨_,rfl,.vec⟩,ø⟩ rfl (by exact⟨.conv (.same rfl),.conv (.same (Yb _ _ del_d)),.conv (.same rfl),.conv (.same rfl),.ptr,ø⟩) (G5 fun K54 hK54=>G3 (JLh (.fn del_f del_c) (G4 G G) G (JLh (.agg (G2.cs y53)) (Gi R0 G G G) G ?_)))
    obtain⟨r55,hr55,h⟩:=Gf h
    refine JLh (BL r55) (H58 (args:=[.agg (G2.cs y53)]) (caps:=del_c) G G (del_w y53 _ hr55) del_B ⟨G,G,ø⟩ del_d) G (JLh (BL (!r55)) (Yu (b:=r55) G G) G (G9 (hK54 _ _ (Gp G (fun hb=>?_) (fun hb=>?_)))))
    ·
     replace h:=Gy hb h
     refine G5 fun K56 hK56=>G3 (JLh (.vec 1021 s_q 4 s.length) (G4 G G) G (JLh (G1 s48.1) (G4 G G) G (JLh (.agg (G2.cs y53)) (Gi R0 G G G) G ?_)))
     obtain⟨y57,hmy57,hy57,h⟩:=Yj h
     refine JLh (.vptr 1021 s_q s48.1.toNat 0) (Y5 (f:=G2.av) (xs:=s48.2.2) (y:=y57) G G G G H8 hy57 hmy57) G (Jb (u:=.junk) (G57 (f:=G2.av) (xs:=s48.2.2) (z:=y53) G1f G G G G (List.getElem?_eq_some_iff.1 hy57).1 G G G G) (G9 (hK56 _ _ (G3 (JLh (G1 s48.1) (G4 G G) G ?_)))))
     obtain⟨v58,hv58,h⟩:=Hf h
     refine JLh (G1 v58) (Hj hv58 G G G) G (JLh (G1 v58) (G8 G G) G (G9 (ej51 _ _ (v58,(s48.2.2.set s48.1.toNat y53)) h ⟨⟨.same G,.same (Yb _ _ del_d),.same G,.same G,ø⟩,⟨⟨_,G,.vec⟩,⟨_,G,.vec⟩,ø⟩,G⟩)))
    ·
     replace h:=Hp hb h
     refine Gq (ej51 _ _ (s48.1,s48.2.2) h ⟨⟨.same G,.same (Yb _ _ del_d),.same G,.same G,ø⟩,⟨⟨_,G,.vec⟩,⟨_,G,.vec⟩,ø⟩,G⟩)
   ·intro j51 h
    replace h:=app1 hkj51 h
    refine G3 (JLh (G1 s48.2.1) (G4 G G) G ?_)
    obtain⟨v59,hv59,h⟩:=Hf h
    refine JLh (G1 v59) (Hj hv59 G G G) G (JLh (G1 v59) (G8 G G) G (G9 (e48 _ _ m48 (j51.1,v59,j51.2) (app1 hn48 h) (by omega) ⟨⟨.same rfl,.same (Yb _ _ del_d),.same rfl,.same rfl,ø⟩,⟨⟨_,rfl,.vec⟩,⟨_,rfl,.vec⟩,ø⟩,rfl⟩)))
  ·
   replace h:=Hp hb h
   refine Hc (hK7 _ _ (G5 fun K60 hK60=>G3 (JLh (.vec 1021 s_q 4 s.length) (G4 G G) G (JLh (G1 s48.1) (G4 G G) G ?_))))
   obtain⟨m61,hm61,h⟩:=Gf h
   refine JLh (.vsl 1021 s_q 4 m61 (s48.2.2.length - m61)) (J1a (f:=G2.av) (xs:=s48.2.2) G G G G H8 (Qn hm61)) G (Jb (u:=.tup []) (A_clearM (f:=G2.av) (xs:=s48.2.2) (off:=m61) (n:=(s48.2.2.length - m61)) (G2.mk (G6.mk 0 0) 0 0) [.int .i64 0,.int .i64 0,.int .i64 0,.int .i64 0] G H8 (.inr G) G Jf1 G G G ⟨.inl G,.inl G,.inl G,.inl G,ø⟩) (G9 (hK60 _ _ (G5 fun K62 hK62=>G3 (JLh (.vec 1021 s_q 4 s.length) (G4 G G) G (JLh (G1 s48.1) (G4 G G) G ?_))))))
   obtain⟨m63,hm63,h⟩:=Gf h
   refine JLh (.vec 1021 (s_q+1) 4 (((blank s48.2.2 m61 (s48.2.2.length - m61) (G2.mk (G6.mk 0 0) 0 0)).take m63).length)) (A_vtakeM (f:=G2.av) (xs:=(blank s48.2.2 m61 (s48.2.2.length - m61) (G2.mk (G6.mk 0 0) 0 0))) G G G G H8 (Qn hm63)) G (JLh (.vec 1021 (s_q+1) 4 (((blank s48.2.2 m61 (s48.2.2.length - m61) (G2.mk (G6.mk 0 0) 0 0)).take m63).length)) (G8 G G) G (G9 (hK62 _ _ (J64 4 G G (fun hn_=>Gx ?_)))))
   obtain rfl:=Option.some.inj h
   exact⟨[.vec 1021 (s_q+1) 4 (((blank s48.2.2 m61 (s48.2.2.length - m61) (G2.mk (G6.mk 0 0) 0 0)).take m63).length)],[(1021,.vec 81 4 (s_q+1) (((blank s48.2.2 m61 (s48.2.2.length - m61) (G2.mk (G6.mk 0 0) 0 0)).take m63).map G2.av))],⟨⟨_,G,.vec⟩,ø⟩,G,⟨⟨_,G,.conv (.same G)⟩,ø⟩,(s_q+1),congrArg (fun n_:Nat=>(.vec 1021 (s_q+1) 4 n_:AV)) (hn_.trans (List.length_map _)),G⟩

def H7b (F:Nat) (s:J0) (boxes:List H4):Option ((List (List G6))×Int×Int):=
 bnd (Zc s boxes) fun r4=>
 bif (!r4) then
 (some ([],0,2))
 else
 (bnd (Qp boxes) fun r8=>
  loop (fun nx10 (s10:(List (List G6))×Int×(List G2))=>
   need (decide (20≤9223372036854775807)) <|
   upto (fun i24 (s24:(List (List G2))) nx24=>
    bnd (G85 F s10.2.2 (i24:Int)) fun r29=>
    need (decide ((s24.length+[r29].length)*24≤140737488355328∧s24.length+[r29].length≤maxLen)) <|
    nx24 (s24++[r29]))
   (fun(s24:(List (List G2)))=>
    bnd (G18 s24 (fun z0=>Gb7 F z0 s)) fun r32=>
    bif decide (r32.2=0) then
    (some (s10.1,s10.2.1,0))
    else
    (each (fun y63 i63 (s63:(List G6)) nx63=>
      need (decide ((s63.length+[y63.G6].length)*16≤140737488355328∧s63.length+[y63.G6].length≤maxLen)) <|
      nx63 (s63++[y63.G6]))
     (fun(s63:(List G6))=>
      need (decide ((s10.1.length+[s63].length)*24≤140737488355328∧s10.1.length+[s63].length≤maxLen)) <|
      Rm (s10.2.1+r32.2) fun v71=>
      bnd (Zr F s10.2.2 (fun z0=>Gb6 z0 s63)) fun r72=>
      nx10 ((s10.1++[s63]),v71,r72)) r32.1 0 [])) (20:Int).toNat 0 []) F ([],0,r8))
theorem Ja1 (F:Nat) (s:J0) (boxes:List H4) (r:(List (List G6))×Int×Int) (h:H7b F s boxes=some r):Pure Tryz.prog 48 [.agg (J0.cs s),E2 boxes] (·=.tup [LS 1 (E1) r.1,G1 r.2.1,G1 r.2.2]):=by
 unfold H7b at h
 refine H1 [.tmp 4,.tmp 5,.tmp 6] Tryz.func48 G G (G5 fun K1 hK1=>G3 (JLh (.ptr 1043 0) (Qi (u:=.agg (J0.cs s)) (cs:=(J0.cs s)) 1043 G G G G G) G (JLh (LS 1 (E1) ([]:List (List G6))) (Rs 1 G G) G (JLh (G1 0) (G8 G G) G (JLh (G1 0) (G8 G G) G (G9 (hK1 _ _ ?_)))))))
 refine Gz [(1,E2 boxes),(2,Ed s)] [] 1043 rfl rfl rfl ø rfl (by exact⟨.conv (.same rfl),.ptr,ø⟩) (G5 (fun K2 hK2=>G5 fun K3 hK3=>G3 (JLh (.agg (J0.cs s)) (Gi Jd G G G) G (JLh (E2 boxes) (G4 G G) G ?_))))
 obtain⟨r4,hr4,h⟩:=Gf h
 refine JLh (BL r4) (Gs (args:=[.agg (J0.cs s),E2 boxes]) G (Gdf s boxes r4 hr4) H9a ⟨G,G,G,G,ø⟩) G (JLh (BL (!r4)) (Yu (b:=r4) G G) G (G9 (hK3 _ _ (Gp G (fun hb=>?_) (fun hb=>?_)))))
 ·
  replace h:=Gy hb h
  refine G5 fun K5 hK5=>G3 (JLh (LS 1 (E1) ([]:List (List G6))) (Rs 1 G G) G (JLh (G1 0) (G8 G G) G (JLh (G1 2) (G8 G G) G (G9 (hK5 _ _ (Gx (⟨[LS 1 (E1) ([]:List (List G6)),G1 0,G1 2],[],ø,G,⟨⟨_,G,.conv (.same G)⟩,⟨_,G,.conv (.same G)⟩,⟨_,G,.conv (.same G)⟩,ø⟩,G,congrArg (fun r:(List (List G6))×Int×Int=>(.tup [LS 1 (E1) r.1,G1 r.2.1,G1 r.2.2]:AV)) (Option.some.inj h)⟩)))))))
 ·
  replace h:=Hp hb h
  refine Gq (hK2 _ _ (G5 fun K6 hK6=>G3 (JLh (OW 1044 1 (E1) ([]:List (List G6))) (G89 1044 88 1 G G G) G (G9 (hK6 _ _ (G5 fun K7 hK7=>G3 (JLh (E2 boxes) (G4 G G) G ?_)))))))
  obtain⟨r8,hr8,h⟩:=Gf h
  refine H3b G G G (Jae (args:=[E2 boxes]) (L0:=[]) (u:=fun p=>.vec 1021 p 4 r8.length) (Lr:=fun p=>[(1021,.vec 81 4 p (r8.map G2.av))]) G (J13.down boxes r8 hr8) Gfe ⟨.inl G,G,ø⟩ ø G (fun _=>G)) ?_
  rintro u_ L_ ⟨v9,rfl,rfl⟩
  refine JLh (G1 0) (G8 G G) G (JLh (.vec 1021 v9 4 r8.length) (G8 G G) G (G9 (hK7 _ _ (Gn ?_))))
  obtain⟨b10,hb10,h⟩:=G16 h
  refine H7 (fun i10 (q10:((List (List G6))×Int×(List G2))×Nat)=>(fun(s10:(List (List G6))×Int×(List G2))=>loop b10 i10 s10=some r) q10.1) (fun i10 q10=>(fun(s10:(List (List G6))×Int×(List G2)) (gv10:Nat)=>[(2,Ed s),(7,OW 1044 1 (E1) s10.1),(8,G1 s10.2.1),(9,.vec 1021 gv10 4 s10.2.2.length)]) q10.1 q10.2) (fun i10 q10=>(fun(s10:(List (List G6))×Int×(List G2)) (gv10:Nat)=>[(1044,.spare 88 1 s10.1.length s10.1.length),(1021,.vec 81 4 gv10 (s10.2.2.map G2.av))]) q10.1 q10.2) (fun i10=>i10) F (([],0,r8),v9) h ⟨(by repeat' constructor),⟨⟨_,rfl,.same⟩,⟨_,rfl,.vec⟩,ø⟩,rfl⟩ ?_
  clear h
  rintro i10 ⟨s10,gv10⟩ hi10 K10 e10
  replace hi10:loop b10 i10 s10=some r:=hi10
  change JC _ _ _ _ [(2,Ed s),(7,OW 1044 1 (E1) s10.1),(8,G1 s10.2.1),(9,.vec 1021 gv10 4 s10.2.2.length)] [(1044,.spare 88 1 s10.1.length s10.1.length),(1021,.vec 81 4 gv10 (s10.2.2.map G2.av))]
  obtain⟨m10,nx10,hm_10,hn10,h⟩:=Zg hi10
  replace h:=H78 hb10 h
  refine Gn (G5 fun K11 hK11=>G3 (JLh (OW 1045 1 (E3) ([]:List (List G2))) (G89 1045 75 1 G G G) G (G9 (hK11 _ _ (G5 (fun K12 hK12=>G5 fun K13 hK13=>G3 (JLh (G1 0) (G4 G G) G (G9 (hK13 _ _ (Gn ?_))))))))))
  obtain⟨hx24,h⟩:=Hr h
  obtain⟨b24,kx24,hb24,hkx24,h⟩:=G59 h
  refine H7 (fun i24 (s24:(List (List G2)))=>upto b24 kx24 ((20:Int).toNat - i24) i24 s24=some r) (fun i24 s24=>[(2,Ed s),(7,OW 1044 1 (E1) s10.1),(8,G1 s10.2.1),(9,.vec 1021 gv10 4 s10.2.2.length),(10,OW 1045 1 (E3) s24),(23,En i24)]) (fun i24 s24=>[(1044,.spare 88 1 s10.1.length s10.1.length),(1021,.vec 81 4 gv10 (s10.2.2.map G2.av)),(1045,.spare 75 1 s24.length s24.length)]) (fun i24=>(20:Int).toNat - i24) 0 [] h ⟨(by repeat' constructor),⟨⟨_,rfl,.same⟩,⟨_,rfl,.vec⟩,⟨_,rfl,.same⟩,ø⟩,rfl⟩ ?_
  clear h
  intro i24 s24 hi24 K24 e24
  refine G5 fun K25 hK25=>G3 (JLh (BL (decide ((i24:Int) < 20))) (Hx G G G) G (G9 (hK25 _ _ (G5 (fun K26 hK26=>Gp G (fun hb=>?_) (fun hb=>?_))))))
  ·
   have hk24:=G33 hb
   obtain⟨nx24,hn24,h⟩:=G2f hi24 hk24
   replace h:=H82 hb24 h
   refine Gq (hK26 _ _ (G5 (fun K27 hK27=>Gn (G5 fun K28 hK28=>G3 (JLh (En i24) (G4 G G) G (JLh (En i24) (G8 G G) G (G9 (hK28 _ _ (G3 (JLh (OW 1045 1 (E3) s24) (G4 G G) G (JLh (.vec 1021 gv10 4 s10.2.2.length) (G4 G G) G (JLh (En i24) (G4 G G) G ?_))))))))))))
   obtain⟨r29,hr29,h⟩:=Gf h
   refine JLh (E3 r29) (Jbe (args:=[.vec 1021 gv10 4 s10.2.2.length,En i24]) (L0:=[(1021,.vec 81 4 gv10 (s10.2.2.map G2.av))]) (Lr:=[(1021,.vec 81 4 gv10 (s10.2.2.map G2.av))]) G (H46 F s10.2.2 gv10 (i24:Int) r29 hr29) Je4 ⟨.inl G,G,.inl G,G,ø⟩ ⟨G,ø⟩ G G G) G (JLh (LS 1 (E3) [r29]) (Hs (xs:=[E3 r29]) G ⟨G,G,ø⟩ Ge5 Jc0 G G G G) G ?_)
   obtain⟨ha30,h⟩:=Hr h
   refine JLh (OW 1045 1 (E3) (s24++[r29])) (Qx (f:=(E3)) (xs:=s24) (ys:=[r29]) G G G G Ge5 Jf7 ha30 (fun _=>G) (.inl G) G) G (JLh (OW 1045 1 (E3) (s24++[r29])) (G8 G G) G (G9 (hK27 _ _ (G3 (JLh (G1 ((i24+1:Nat):Int)) (Hj (Hi hk24 (G07 hx24)) G G G) G (JLh (G1 ((i24+1:Nat):Int)) (G4 G G) G (G9 (e24 _ _ (i24+1) (s24++[r29]) (app1 hn24 h) (by omega) ⟨(by repeat' constructor),⟨⟨_,rfl,.same⟩,⟨_,rfl,.vec⟩,⟨_,rfl,.same⟩,ø⟩,rfl⟩))))))))
  ·
   have h:=app1 hkx24 (G30 hi24 (Rx hb))
   refine Hc (hK12 _ _ (G5 fun K31 hK31=>G3 (JLh (OW 1045 1 (E3) s24) (G4 G G) G (JLh (.fn 119 [.dptr (J0.cs s)]) (H1a (cs:=[.dptr (J0.cs s)]) G G) G ?_))))
   obtain⟨r32,hr32,h⟩:=Gf h
   refine JLh (.tup [E3 r32.1,G1 r32.2]) (Gs (args:=[LS 1 (E3) s24,.fn 119 [.dptr (J0.cs s)]]) G (Gd2 s24 (fun z0=>Gb7 F z0 s) 119 [.dptr (J0.cs s)] Je2 G (fun z0 q hq=>J17 F z0 s q hq) r32 hr32) Je3 ⟨G,G,G,G,ø⟩) G (JLh (.tup [E3 r32.1,G1 r32.2]) (G4 G G) G (JLh (E3 r32.1) (Hm G G G) G (JLh (G1 r32.2) (Hm G G G) G (JLh (E3 r32.1) (G8 G G) G (JLh (G1 r32.2) (G8 G G) G (G9 (hK31 _ _ ?_)))))))
   refine G5 (fun K33 hK33=>G5 fun K34 hK34=>G3 (JLh (G1 r32.2) (G4 G G) G (JLh (BL (decide (r32.2=0))) (Rt G G G) G (G9 (hK34 _ _ (Gp G (fun hb=>?_) (fun hb=>?_)))))))
   ·
    replace h:=Gy hb h
    refine G5 fun K35 hK35=>G3 (JLh (OW 1044 1 (E1) s10.1) (G4 G G) G (JLh (G1 s10.2.1) (G4 G G) G (JLh (OW 1044 1 (E1) s10.1) (G8 G G) G (JLh (G1 s10.2.1) (G8 G G) G (JLh (G1 0) (G8 G G) G (G9 (hK35 _ _ (Gx (⟨[LS 1 (E1) s10.1,G1 s10.2.1,G1 0],[],ø,G,⟨⟨_,G,.conv (.list G)⟩,⟨_,G,.conv (.same G)⟩,⟨_,G,.conv (.same G)⟩,ø⟩,G,congrArg (fun r:(List (List G6))×Int×Int=>(.tup [LS 1 (E1) r.1,G1 r.2.1,G1 r.2.2]:AV)) (Option.some.inj h)⟩)))))))))
   ·
    replace h:=Hp hb h
    refine Gq (hK33 _ _ (G5 fun K36 hK36=>G3 (JLh (.ptr 1046 0) (G15 1046 [.sc (.slice none 0 0)] [.slice none 0 0] Jf0 ⟨.inl G,ø⟩ G G) G (Ja4 1046 0 1048 72 2 G G G (cs':=[OW 1048 2 G6.av ([]:List G6)]) G (G9 (hK36 _ _ (G5 (fun K37 hK37=>G5 fun K38 hK38=>G3 (JLh (E3 r32.1) (G4 G G) G (H0 (f:=G2.av) (xs:=r32.1) H8 G G (fun hm44=>?_) G G G))))))))))
    refine JLh (G1 0) (G4 G G) G (G9 (hK38 _ _ (Gn ?_)))
    obtain⟨b63,kx63,hb63,hkx63,h⟩:=J9 h
    refine H7 (fun i63 (s63:(List G6))=>each b63 kx63 (List.drop i63 r32.1) i63 s63=some r) (fun i63 s63=>[(2,Ed s),(7,OW 1044 1 (E1) s10.1),(8,G1 s10.2.1),(9,.vec 1021 gv10 4 s10.2.2.length),(13,G1 r32.2),(14,.ptr 1046 0),(43,E3 r32.1),(44,En r32.1.length),(45,En i63)]) (fun i63 s63=>[(1044,.spare 88 1 s10.1.length s10.1.length),(1021,.vec 81 4 gv10 (s10.2.2.map G2.av)),(1048,.spare 72 2 s63.length s63.length),(1046,.box 88 [OW 1048 2 G6.av s63])]) (fun i63=>r32.1.length - i63) 0 [] h ⟨(by repeat' constructor),⟨⟨_,rfl,.same⟩,⟨_,rfl,.vec⟩,⟨_,rfl,.same⟩,⟨_,rfl,.boxL rfl ⟨.same rfl,ø⟩⟩,ø⟩,rfl⟩ ?_
    clear h
    intro i63 s63 hi63 K63 e63
    refine G5 fun K64 hK64=>G3 (JLh (BL (decide ((i63:Int) < (r32.1.length:Int)))) (Hx G G G) G (G9 (hK64 _ _ (G5 (fun K65 hK65=>Gp G (fun hb=>?_) (fun hb=>?_))))))
    ·
     have hk63:=Jm hb
     obtain⟨y63,nx63,hy63,hn63,h⟩:=Hy hi63 hk63
     replace h:=Zn hb63 h
     refine Gq (hK65 _ _ (G5 (fun K66 hK66=>Gn (G5 fun K67 hK67=>G3 (JLh (Ee y63) (Gv (f:=G2.av) (xs:=r32.1) (y:=y63) G G G H8 hy63 G) G (JLh (.agg (G2.cs y63)) (Gi R0 G G G) G (JLh (.ptr 1047 0) (Jn 1047 4 R9 G G) G (Jb (u:=.junk) (J4 (u:=.agg (G2.cs y63)) (ds:=[G1 y63.G6.Load,G1 y63.G6.Discharge,G1 y63.Whole,G1 y63.Half]) G1f G G G G G G G G) (G9 (hK67 _ _ ?_))))))))))
     refine Gz [(2,Ed s),(7,OW 1044 1 (E1) s10.1),(8,G1 s10.2.1),(9,.vec 1021 gv10 4 s10.2.2.length),(13,G1 r32.2),(14,.ptr 1046 0),(16,Ee y63),(43,E3 r32.1),(44,En r32.1.length),(45,En i63)] [(1044,.spare 88 1 s10.1.length s10.1.length),(1021,.vec 81 4 gv10 (s10.2.2.map G2.av)),(1048,.spare 72 2 s63.length s63.length),(1046,.box 88 [OW 1048 2 G6.av s63])] 1047 rfl rfl rfl ⟨⟨_,rfl,.same⟩,⟨_,rfl,.vec⟩,⟨_,rfl,.same⟩,⟨_,rfl,.boxEq rfl rfl⟩,ø⟩ rfl (by repeat' (first | exact .ptr | constructor)) ?_
     refine G3 (JLh (OW 1048 2 G6.av s63) (G35 Rv G G G G) G (JLh (Ee y63) (Ge Ju G G G) G (JLh (.agg [G1 y63.G6.Load,G1 y63.G6.Discharge]) (Gi Ho G G G) G (JLh (E1 [y63.G6]) (Hs (xs:=[.agg [G1 y63.G6.Load,G1 y63.G6.Discharge]]) G ⟨G,G,ø⟩ Ha Zx G G G G) G ?_))))
     obtain⟨ha68,h⟩:=Hr h
     refine JLh (OW 1048 2 G6.av (s63++[y63.G6])) (Qx (f:=G6.av) (xs:=s63) (ys:=[y63.G6]) G G G G Ha Gfc ha68 (fun _=>G) (.inl G) G) G (Jb (u:=.junk) (J4 (u:=OW 1048 2 G6.av (s63++[y63.G6])) (ds:=[OW 1048 2 G6.av (s63++[y63.G6])]) Jf2 G G G G G G G G) (G9 (hK66 _ _ (G3 (JLh (G1 ((i63+1:Nat):Int)) (Hj (Hi hk63 hm44) G G G) G (JLh (G1 ((i63+1:Nat):Int)) (G4 G G) G (G9 (e63 _ _ (i63+1) (s63++[y63.G6]) (app1 hn63 h) (by omega) ⟨(by repeat' constructor),⟨⟨_,rfl,.same⟩,⟨_,rfl,.vec⟩,⟨_,rfl,.same⟩,⟨_,rfl,.boxL rfl ⟨.same rfl,ø⟩⟩,ø⟩,rfl⟩))))))))
    ·
     have h:=app1 hkx63 (Hz hi63 (Hg hb))
     refine Hc (hK37 _ _ (G5 fun K69 hK69=>G3 (JLh (OW 1044 1 (E1) s10.1) (G4 G G) G (JLh (OW 1048 2 G6.av s63) (G35 Rv G G G G) G (JLh (LS 1 (E1) [s63]) (Hs (xs:=[E1 s63]) G ⟨G,G,ø⟩ J1 H2e G G G G) G ?_)))))
     obtain⟨ha70,h⟩:=Hr h
     refine JLh (OW 1044 1 (E1) (s10.1++[s63])) (Qx (f:=(E1)) (xs:=s10.1) (ys:=[s63]) G G G G J1 H60 ha70 (fun _=>G) (.inl G) G) G (JLh (G1 s10.2.1) (G4 G G) G (JLh (G1 r32.2) (G4 G G) G ?_))
     obtain⟨v71,hv71,h⟩:=Hf h
     refine JLh (G1 v71) (Hj hv71 G G G) G (JLh (OW 1044 1 (E1) (s10.1++[s63])) (G8 G G) G (JLh (G1 v71) (G8 G G) G (G9 (hK69 _ _ ?_))))
     refine Z9 (l':=[(2,Ed s),(7,OW 1044 1 (E1) (s10.1++[s63])),(8,G1 v71),(9,.vec 1021 gv10 4 s10.2.2.length),(14,.ptr 1046 0)]) (L':=[(1044,.spare 88 1 (s10.1++[s63]).length (s10.1++[s63]).length),(1021,.vec 81 4 gv10 (s10.2.2.map G2.av)),(1046,.box 88 [E1 s63])]) ⟨(by repeat' constructor),⟨⟨_,rfl,.same⟩,⟨_,rfl,.vec⟩,⟨_,rfl,.boxL rfl ⟨.list rfl,ø⟩⟩,ø⟩,rfl⟩ ?_
     refine Gz [(2,Ed s),(7,OW 1044 1 (E1) (s10.1++[s63])),(8,G1 v71),(9,.vec 1021 gv10 4 s10.2.2.length),(14,.dptr [E1 s63])] [(1044,.spare 88 1 (s10.1++[s63]).length (s10.1++[s63]).length),(1021,.vec 81 4 gv10 (s10.2.2.map G2.av))] 1046 rfl rfl rfl ⟨⟨_,rfl,.same⟩,⟨_,rfl,.vec⟩,ø⟩ rfl (by repeat' (first | exact .ptr | constructor)) (G3 (JLh (.vec 1021 gv10 4 s10.2.2.length) (G4 G G) G (JLh (.fn 121 [.dptr [E1 s63]]) (H1a (cs:=[.dptr [E1 s63]]) G G) G ?_)))
     obtain⟨r72,hr72,h⟩:=Gf h
     refine H3b G G G (Jae (args:=[.vec 1021 gv10 4 s10.2.2.length,.fn 121 [.dptr [E1 s63]]]) (L0:=[(1021,.vec 81 4 gv10 (s10.2.2.map G2.av))]) (u:=fun p=>.vec 1021 p 4 r72.length) (Lr:=fun p=>[(1021,.vec 81 4 p (r72.map G2.av))]) G (G51 F s10.2.2 gv10 (fun z0=>Gb6 z0 s63) 121 [.dptr [E1 s63]] Je0 G (fun z0 q hq=>J16 z0 s63 q hq) r72 hr72) Je1 ⟨.inl G,G,.inl G,G,ø⟩ ⟨G,ø⟩ G (fun _=>G)) ?_
     rintro u_ L_ ⟨v73,rfl,rfl⟩
     refine JLh (.vec 1021 v73 4 r72.length) (G8 G G) G (G9 (e10 _ _ m10 (((s10.1++[s63]),v71,r72),v73) (app1 hn10 h) (by omega) ⟨(by repeat' constructor),⟨⟨_,rfl,.same⟩,⟨_,rfl,.vec⟩,ø⟩,rfl⟩))

def Gc3 (n:Int) (d:Int):Option Int:=
 Rm (n+d) fun v3=>
 Rm (v3 - 1) fun v4=>
 bnd (J83 v4 d) fun v5=>
 some v5
theorem Hed (n:Int) (d:Int) (r:Int) (h:Gc3 n d=some r):Pure Tryz.prog 108 [G1 n,G1 d] (·=G1 r):=by
 unfold Gc3 at h
 refine H1 [.tmp 4] Tryz.func108 G G (G5 fun K1 hK1=>G3 (JLh (G1 0) (G8 G G) G (G9 (hK1 _ _ (G5 fun K2 hK2=>G3 (JLh (G1 n) (G4 G G) G (JLh (G1 d) (G4 G G) G ?_)))))))
 obtain⟨v3,hv3,h⟩:=Hf h
 refine JLh (G1 v3) (Hj hv3 G G G) G ?_
 obtain⟨v4,hv4,h⟩:=Hf h
 refine JLh (G1 v4) (G1e hv4 G G G) G (JLh (G1 d) (G4 G G) G ?_)
 obtain⟨v5,hv5,h⟩:=Gf h
 refine JLh (G1 v5) (A_quo (Gf6 hv5).1 (Gf6 hv5).2 G G G) G (JLh (G1 v5) (G8 G G) G (G9 (hK2 _ _ (Gx (⟨[G1 v5],[],ø,G,⟨⟨_,G,.conv (.same G)⟩,ø⟩,G,congrArg (fun r:Int=>(G1 r:AV)) (Option.some.inj h)⟩)))))

def G19 (s:J0) (whole:Int) (half:Int):Option (Int×Int):=
 bnd (G6d s) fun r4=>
 bif (((!r4)||(decide ((min whole half) < 0)))||(decide (2000 < (max whole half)))) then
 (some (0,2))
 else
 (bnd (Yt s) fun r7=>
  bnd (Gc3 whole r7) fun r9=>
  Rm (2*r9) fun v10=>
  Rm (2*whole) fun v11=>
  Rm (v11+half) fun v12=>
  bnd (Gc3 v12 r7) fun r13=>
  some ((max v10 r13),0))
theorem Hab (s:J0) (whole:Int) (half:Int) (r:Int×Int) (h:G19 s whole half=some r):Pure Tryz.prog 41 [.agg (J0.cs s),G1 whole,G1 half] (·=.tup [G1 r.1,G1 r.2]):=by
 unfold G19 at h
 refine H1 [.tmp 6,.tmp 7] Tryz.func41 G G (G5 fun K1 hK1=>G3 (JLh (.ptr 1033 0) (Qi (u:=.agg (J0.cs s)) (cs:=(J0.cs s)) 1033 G G G G G) G (JLh (G1 0) (G8 G G) G (JLh (G1 0) (G8 G G) G (G9 (hK1 _ _ ?_))))))
 refine Gz [(1,G1 whole),(2,G1 half),(3,Ed s)] [] 1033 rfl rfl rfl ø rfl (by exact⟨.conv (.same rfl),.conv (.same rfl),.ptr,ø⟩) (G5 (fun K2 hK2=>G5 fun K3 hK3=>G3 (JLh (.agg (J0.cs s)) (Gi Jd G G G) G ?_)))
 obtain⟨r4,hr4,h⟩:=Gf h
 refine JLh (BL r4) (Gs (args:=[.agg (J0.cs s)]) G (Haa.down s r4 hr4) J74 ⟨G,G,ø⟩) G (JLh (BL (!r4)) (Yu (b:=r4) G G) G (JLh (BL (!r4)) (G4 G G) G (Gd (u:=G1 whole) [] G G G .scf ø (fun hc=>G4 G G) ?_)))
 refine Gd (u:=G1 half) [] G G G .scf ø (fun hc=>G4 G G) ?_
 refine Gd (u:=G1 (min whole half)) [(13,G1 whole),(14,G1 half)] G G G .scf ⟨.all id,.all id,ø⟩ (fun hc=>A_min G G G) ?_
 refine Gd (u:=BL (decide ((min whole half) < 0))) [(15,G1 (min whole half))] G G G .scf ⟨.all id,ø⟩ (fun hc=>Hx G G G) ?_
 refine JLh (BL ((!r4)||(decide ((min whole half) < 0)))) (Z5 G G G G) G (JLh (BL ((!r4)||(decide ((min whole half) < 0)))) (G4 G G) G (Gd (u:=G1 whole) [] G G G .scf ø (fun hc=>G4 G G) ?_))
 refine Gd (u:=G1 half) [] G G G .scf ø (fun hc=>G4 G G) ?_
 refine Gd (u:=G1 (max whole half)) [(19,G1 whole),(20,G1 half)] G G G .scf ⟨.all id,.all id,ø⟩ (fun hc=>A_max G G G) ?_
 refine Gd (u:=BL (decide (2000 < (max whole half)))) [(21,G1 (max whole half))] G G G .scf ⟨.all id,ø⟩ (fun hc=>Ya G G G) ?_
 refine JLh (BL (((!r4)||(decide ((min whole half) < 0)))||(decide (2000 < (max whole half))))) (Z5 G G G G) G (G9 (hK3 _ _ (Gp G (fun hb=>?_) (fun hb=>?_))))
 ·
  replace h:=Gy hb h
  refine G5 fun K5 hK5=>G3 (JLh (G1 0) (G8 G G) G (JLh (G1 2) (G8 G G) G (G9 (hK5 _ _ (Gx (⟨[G1 0,G1 2],[],ø,G,⟨⟨_,G,.conv (.same G)⟩,⟨_,G,.conv (.same G)⟩,ø⟩,G,congrArg (fun r:Int×Int=>(.tup [G1 r.1,G1 r.2]:AV)) (Option.some.inj h)⟩))))))
 ·
  replace h:=Hp hb h
  refine Gq (hK2 _ _ (G5 fun K6 hK6=>G3 (JLh (.agg (J0.cs s)) (Gi Jd G G G) G ?_)))
  obtain⟨r7,hr7,h⟩:=Gf h
  refine JLh (G1 r7) (Gs (args:=[.agg (J0.cs s)]) G (G43 s r7 hr7) Gca ⟨G,G,ø⟩) G (JLh (G1 r7) (G8 G G) G (G9 (hK6 _ _ (G5 fun K8 hK8=>G3 (JLh (G1 whole) (G4 G G) G (JLh (G1 r7) (G4 G G) G ?_))))))
  obtain⟨r9,hr9,h⟩:=Gf h
  refine JLh (G1 r9) (Gs (args:=[G1 whole,G1 r7]) G (Hed whole r7 r9 hr9) J31 ⟨G,G,G,G,ø⟩) G ?_
  obtain⟨v10,hv10,h⟩:=Hf h
  refine JLh (G1 v10) (G77 hv10 G G G) G (JLh (G1 whole) (G4 G G) G ?_)
  obtain⟨v11,hv11,h⟩:=Hf h
  refine JLh (G1 v11) (G77 hv11 G G G) G (JLh (G1 half) (G4 G G) G ?_)
  obtain⟨v12,hv12,h⟩:=Hf h
  refine JLh (G1 v12) (Hj hv12 G G G) G (JLh (G1 r7) (G4 G G) G ?_)
  obtain⟨r13,hr13,h⟩:=Gf h
  refine JLh (G1 r13) (Gs (args:=[G1 v12,G1 r7]) G (Hed v12 r7 r13 hr13) J31 ⟨G,G,G,G,ø⟩) G (JLh (G1 (max v10 r13)) (A_max G G G) G (JLh (G1 (max v10 r13)) (G8 G G) G (JLh (G1 0) (G8 G G) G (G9 (hK8 _ _ (Gx (⟨[G1 (max v10 r13),G1 0],[],ø,G,⟨⟨_,G,.conv (.same G)⟩,⟨_,G,.conv (.same G)⟩,ø⟩,G,congrArg (fun r:Int×Int=>(.tup [G1 r.1,G1 r.2]:AV)) (Option.some.inj h)⟩)))))))
end
end Go.Proofs.YtfkilljboodoaaaGreat
