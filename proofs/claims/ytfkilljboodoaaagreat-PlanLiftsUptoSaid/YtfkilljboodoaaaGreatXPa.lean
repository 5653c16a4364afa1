/-
 Models of functions of the program,and that they return what the models say.
-/
import Derived.Test.YtfkilljboodoaaaGreatXL
set_option maxRecDepth 100000
set_option linter.unusedVariables false
set_option linter.unusedSimpArgs false
namespace Go.Proofs.YtfkilljboodoaaaGreat
open Go.RowKit
noncomputable section
structure Gs where
 id:Int
 in_:Bool
 deriving DecidableEq,Inhabited
def Gs.cs (x:Gs):List AV:=[G0 x.id,BL x.in_]
def Gs.av (x:Gs):AV:=.agg x.cs
abbrev Ea:=LS 2 Gs.av
namespace XPF
open XAF
open XLF
theorem tq_119 (a b:Slot):H32 Tryz.prog 4 119 [.int .i64 a.G4,.int .i64 a.Tier,.int .u8 a.Half] [.int .i64 b.G4,.int .i64 b.Tier,.int .u8 b.Half]=some (decide (a=b)):=by
 refine(show _=some ((a.G4==b.G4)&&((a.Tier==b.Tier)&&((a.Half==b.Half)&&true))) by kernel_rfl).trans (congrArg some ?_)
 rw [Bool.eq_iff_iff]
 simp only [Bool.and_eq_true,beq_iff_eq,decide_eq_true_eq,Bool.and_true]
 constructor
 ·intro h; obtain⟨_,_,_⟩:=a; obtain⟨_,_,_⟩:=b; simp_all
 ·intro h; subst h; simp
theorem Jh:Gab Tryz.prog 119 3=true:=by kernel_rfl
theorem Gde:Gab Tryz.prog 37 2=true:=by kernel_rfl
theorem Gcf:G05 Tryz.prog 119=true:=by kernel_rfl
theorem J69:Hf Tryz.prog 11=true:=by kernel_rfl
theorem Q10:Hf Tryz.prog 12=true:=by kernel_rfl
theorem Q0f:Hf Tryz.prog 13=true:=by kernel_rfl
theorem J68:Hf Tryz.prog 15=true:=by kernel_rfl
theorem Je0:Hf Tryz.prog 151=true:=by kernel_rfl
theorem J23:Hf Tryz.prog 152=true:=by kernel_rfl
theorem Jdf:Hf Tryz.prog 153=true:=by kernel_rfl
theorem Jde:Hf Tryz.prog 154=true:=by kernel_rfl
theorem Jdd:Hf Tryz.prog 155=true:=by kernel_rfl
theorem Jdc:Hf Tryz.prog 156=true:=by kernel_rfl
theorem Yp:Hf Tryz.prog 157=true:=by kernel_rfl
theorem Jdb:Hf Tryz.prog 158=true:=by kernel_rfl
theorem J22:Hf Tryz.prog 159=true:=by kernel_rfl
theorem J21:Hf Tryz.prog 160=true:=by kernel_rfl
theorem Jda:Hf Tryz.prog 161=true:=by kernel_rfl
theorem Jd9:Hf Tryz.prog 162=true:=by kernel_rfl
theorem Jd8:Hf Tryz.prog 163=true:=by kernel_rfl
theorem Jd7:Hf Tryz.prog 164=true:=by kernel_rfl
theorem Jd6:Hf Tryz.prog 165=true:=by kernel_rfl
theorem Jd5:Hf Tryz.prog 166=true:=by kernel_rfl
theorem Jd4:Hf Tryz.prog 167=true:=by kernel_rfl
theorem H14:Hf Tryz.prog 168=true:=by kernel_rfl
theorem Jd3:Hf Tryz.prog 169=true:=by kernel_rfl
theorem Q0e:Hf Tryz.prog 17=true:=by kernel_rfl
theorem J20:Hf Tryz.prog 170=true:=by kernel_rfl
theorem Jd2:Hf Tryz.prog 171=true:=by kernel_rfl
theorem J1f:Hf Tryz.prog 172=true:=by kernel_rfl
theorem Jd1:Hf Tryz.prog 173=true:=by kernel_rfl
theorem Jd0:Hf Tryz.prog 174=true:=by kernel_rfl
theorem J67:Hf Tryz.prog 20=true:=by kernel_rfl
theorem Jc7:Hf Tryz.prog 211=true:=by kernel_rfl
theorem J1e:Hf Tryz.prog 212=true:=by kernel_rfl
theorem J66:Hf Tryz.prog 22=true:=by kernel_rfl
theorem Q0d:Hf Tryz.prog 24=true:=by kernel_rfl
theorem Jc6:Hf Tryz.prog 242=true:=by kernel_rfl
theorem Jc5:Hf Tryz.prog 243=true:=by kernel_rfl
theorem Jc4:Hf Tryz.prog 244=true:=by kernel_rfl
theorem Jc3:Hf Tryz.prog 245=true:=by kernel_rfl
theorem H76:Hf Tryz.prog 246=true:=by kernel_rfl
theorem Jc2:Hf Tryz.prog 247=true:=by kernel_rfl
theorem J1c:Hf Tryz.prog 248=true:=by kernel_rfl
theorem J1b:Hf Tryz.prog 249=true:=by kernel_rfl
theorem H13:Hf Tryz.prog 250=true:=by kernel_rfl
theorem J1a:Hf Tryz.prog 251=true:=by kernel_rfl
theorem J19:Hf Tryz.prog 252=true:=by kernel_rfl
theorem Jc1:Hf Tryz.prog 253=true:=by kernel_rfl
theorem Jc0:Hf Tryz.prog 254=true:=by kernel_rfl
theorem Jbf:Hf Tryz.prog 255=true:=by kernel_rfl
theorem Q0c:Hf Tryz.prog 26=true:=by kernel_rfl
theorem J18:Hf Tryz.prog 265=true:=by kernel_rfl
theorem Q0b:Hf Tryz.prog 27=true:=by kernel_rfl
theorem Jbe:Hf Tryz.prog 288=true:=by kernel_rfl
theorem Jbd:Hf Tryz.prog 289=true:=by kernel_rfl
theorem Jbc:Hf Tryz.prog 290=true:=by kernel_rfl
theorem Jbb:Hf Tryz.prog 291=true:=by kernel_rfl
theorem Jba:Hf Tryz.prog 292=true:=by kernel_rfl
theorem J65:Hf Tryz.prog 30=true:=by kernel_rfl
theorem Hbc:Hf Tryz.prog 31=true:=by kernel_rfl
theorem Q0a:Hf Tryz.prog 32=true:=by kernel_rfl
theorem J64:Hf Tryz.prog 33=true:=by kernel_rfl
theorem Q09:Hf Tryz.prog 61=true:=by kernel_rfl
theorem G15:Hf Tryz.prog 62=true:=by kernel_rfl
theorem J62:Hf Tryz.prog 71=true:=by kernel_rfl
theorem Hbb:Hf Tryz.prog 72=true:=by kernel_rfl
theorem Q03:Hf Tryz.prog 73=true:=by kernel_rfl
theorem Q02:Hf Tryz.prog 74=true:=by kernel_rfl
theorem Q01:Hf Tryz.prog 75=true:=by kernel_rfl
theorem J61:Hf Tryz.prog 76=true:=by kernel_rfl
theorem G7f:Hf Tryz.prog 77=true:=by kernel_rfl
theorem Q00:Hf Tryz.prog 78=true:=by kernel_rfl
theorem Jff:Hf Tryz.prog 79=true:=by kernel_rfl
theorem J60:Hf Tryz.prog 80=true:=by kernel_rfl
theorem Jfe:Hf Tryz.prog 81=true:=by kernel_rfl
theorem G7e:Hf Tryz.prog 82=true:=by kernel_rfl
theorem tf_call_9:Hf Tryz.prog 9=true:=by kernel_rfl
theorem Jf7:Hf Tryz.prog 95=true:=by kernel_rfl
theorem J5e:Hf Tryz.prog 96=true:=by kernel_rfl
theorem Jf6:Hf Tryz.prog 97=true:=by kernel_rfl
theorem J17:Zn Tryz.prog 119 3 24=true:=by kernel_rfl
theorem Jb9:Zn Tryz.prog 176 2 16=true:=by kernel_rfl
theorem Jf5:Zn Tryz.prog 51 1 24=true:=by kernel_rfl
theorem H48:Tryz.prog.eqGuardType Tryz.prog.depth 119=false:=by kernel_rfl
theorem G14:Q4 Tryz.prog 117 0 0=true:=by kernel_rfl
theorem G8f:Q4 Tryz.prog 117 2 2=true:=by kernel_rfl
theorem Ge3:Q4 Tryz.prog 117 3 3=true:=by kernel_rfl
theorem Ge2:Q4 Tryz.prog 117 5 5=true:=by kernel_rfl
theorem Ge1:Q4 Tryz.prog 117 6 6=true:=by kernel_rfl
theorem J0:Q4 Tryz.prog 119 0 0=true:=by kernel_rfl
theorem Q2:Q4 Tryz.prog 119 1 1=true:=by kernel_rfl
theorem Jd:Q4 Tryz.prog 119 2 2=true:=by kernel_rfl
theorem Jq:Q4 Tryz.prog 121 0 0=true:=by kernel_rfl
theorem Hz:Q4 Tryz.prog 121 1 1=true:=by kernel_rfl
theorem Z0:Q4 Tryz.prog 176 0 0=true:=by kernel_rfl
theorem G8e:Q4 Tryz.prog 176 1 1=true:=by kernel_rfl
theorem tf_int_3:J03 Tryz.prog 3 .i64=true:=by kernel_rfl
theorem tf_int_5:J03 Tryz.prog 5 .u8=true:=by kernel_rfl
theorem J59:Ga1 Tryz.prog 256 3 326=true:=by kernel_rfl
theorem H21:placesOf Tryz.prog 119=some [(0,1),(1,1),(2,1)]:=by kernel_rfl
theorem Ja1:placesOf Tryz.prog 176=some [(0,1),(1,1)]:=by kernel_rfl
theorem Jac:placesOf Tryz.prog 32=some [(0,1),(1,1),(2,4),(6,1),(7,1),(8,1),(9,4)]:=by kernel_rfl
theorem J9d:placesOf Tryz.prog 326=some []:=by kernel_rfl
theorem Jab:placesOf Tryz.prog 37=some [(0,1),(1,1)]:=by kernel_rfl
theorem J9c:Ro Tryz.prog 243=true:=by kernel_rfl
theorem J9b:Ro Tryz.prog 256=true:=by kernel_rfl
theorem Gae:Ro Tryz.prog 257=true:=by kernel_rfl
theorem Gce:Ro Tryz.prog 35=true:=by kernel_rfl
theorem Jn:Ro Tryz.prog 5=true:=by kernel_rfl
theorem G0d:Rv Tryz.prog 119 3=true:=by kernel_rfl
theorem J16:Rv Tryz.prog 256 1=true:=by kernel_rfl
theorem J15:Rv Tryz.prog 257 1=true:=by kernel_rfl
theorem tf_size_3:Rv Tryz.prog 3 1=true:=by kernel_rfl
theorem Jb5:Rv Tryz.prog 326 0=true:=by kernel_rfl
theorem J58:Rv Tryz.prog 34 1=true:=by kernel_rfl
theorem Jef:Rv Tryz.prog 35 1=true:=by kernel_rfl
theorem Jee:Rv Tryz.prog 37 2=true:=by kernel_rfl
theorem tf_size_4:Rv Tryz.prog 4 1=true:=by kernel_rfl
theorem J57:Rv Tryz.prog 62 1=true:=by kernel_rfl
theorem Qc:sliceB Tryz.prog 173 176 2=true:=by kernel_rfl
theorem Rx:sliceB Tryz.prog 243 119 3=true:=by kernel_rfl
theorem G3b:sliceB Tryz.prog 35 51 1=true:=by kernel_rfl
theorem H11:(Tryz.prog.info? 119).bind (fun i=>i.zero.map Value.cells)=some (List.toArray [.int .i64 0,.int .i64 0,.int .u8 0]):=by kernel_rfl
theorem Jb4:(Tryz.prog.info? 176).bind (fun i=>i.zero.map Value.cells)=some (List.toArray [.int .i64 0,.bool false]):=by kernel_rfl
theorem tf_zero_3:(Tryz.prog.info? 3).bind (fun i=>i.zero.map Value.cells)=some (List.toArray [.int .i64 0]):=by kernel_rfl
theorem Jb3:(Tryz.prog.info? 326).bind (fun i=>i.zero.map Value.cells)=some (List.toArray []):=by kernel_rfl
theorem Jed:(Tryz.prog.info? 35).bind (fun i=>i.zero.map Value.cells)=some (List.toArray [.slice none 0 0]):=by kernel_rfl
theorem Jec:(Tryz.prog.info? 37).bind (fun i=>i.zero.map Value.cells)=some (List.toArray [.slice none 0 0,.slice none 0 0]):=by kernel_rfl
theorem J56:(Tryz.prog.info? 51).bind (fun i=>i.zero.map Value.cells)=some (List.toArray [.slice none 0 0]):=by kernel_rfl
theorem Zo:Rw Tryz.prog 119 3=true:=by kernel_rfl
theorem Jaa:Rw Tryz.prog 176 2=true:=by kernel_rfl
theorem Hd3:Rw Tryz.prog 256 1=true:=by kernel_rfl
theorem Hd2:Rw Tryz.prog 257 1=true:=by kernel_rfl
theorem J11:Rw Tryz.prog 32 13=true:=by kernel_rfl
theorem Ja7:Rw Tryz.prog 326 0=true:=by kernel_rfl
theorem J10:Rw Tryz.prog 34 1=true:=by kernel_rfl
theorem Jb2:Rw Tryz.prog 37 2=true:=by kernel_rfl
theorem Jb1:Rw Tryz.prog 51 1=true:=by kernel_rfl
theorem Gb4:Rw Tryz.prog 62 1=true:=by kernel_rfl
theorem tf_zv_326:(Tryz.prog.info? 326).bind (·.zero)=some (.agg #[]):=by kernel_rfl
theorem tk_3:H0e Tryz.prog 3 (fun n:Int=>Value.int .i64 n):=H0e.of_int (by kernel_rfl)
end XPF
open XAF
open XLF
open XPF

def Zv (s:Hb) (boxes:List Gv):Option Bool:=
 bif (((decide (12 < (s.Columns.length:Int)))||(decide (12 < (s.Covers.length:Int))))||(decide (30 < (boxes.length:Int)))) then
 (some false)
 else
 (each (fun y21 i21 (s21:Unit) nx21=>
   bif ((decide (12 < (y21.Plugs.length:Int)))||(decide (10 < y21.Tiers))) then
   (some false)
   else
   (nx21 ()))
  (fun(s21:Unit)=>
   each (fun y44 i44 (s44:Unit) nx44=>
    bif decide (12 < (y44.Rows.length:Int)) then
    (some false)
    else
    (nx44 ()))
   (fun(s44:Unit)=>
    some true) s.Covers 0 ()) s.Columns 0 ())
theorem H5a (s:Hb) (boxes:List Gv) (r:Bool) (h:Zv s boxes=some r):Pure Tryz.prog 9 [.agg (Hb.cs s),E2 boxes] (·=BL r):=by
 unfold Zv at h
 refine H1 [.tmp 4] Tryz.func9 O O (G7 fun K1 hK1=>G2 (JLh (.ptr 1003 0) (Jy (u:=.agg (Hb.cs s)) (cs:=(Hb.cs s)) 1003 O O O O O) O (JLh (BL false) (G9 O O) O (G8 (hK1 _ _ ?_)))))
 refine Gx [(1,E2 boxes),(2,Ee s)] [] 1003 rfl rfl rfl G rfl (by exact⟨.conv (.same rfl),.ptr,G⟩) (G7 (fun K2 hK2=>G7 fun K3 hK3=>G2 (JLh (Ee s) (Gb Hi O O O) O (JLh (E3 s.Columns) (Gh Hq O O O) O ?_))))
 refine H3 (f:=G4.av) (xs:=s.Columns) H7 O O (fun hm11=>?_) O O O
 refine JLh (BL (decide (12 < (s.Columns.length:Int)))) (G31 O O O) O (JLh (BL (decide (12 < (s.Columns.length:Int)))) (G5 O O) O (Ga (u:=.dptr [E4 s.Covers,G0 s.Light.Kilos,G0 s.Light.X,G0 s.Light.Y,G0 s.Light.Z,E6 s.Rows,E5 s.Frames,E7 s.Tanks,G0 s.G3.Tolerance,G0 s.G3.Trim,G0 s.G3.List_,G0 s.G3.Stability]) [] O O O .scf G (fun hc=>Gb Jz O O O) ?_))
 refine Ga (u:=E4 s.Covers) [(14,.dptr [E4 s.Covers,G0 s.Light.Kilos,G0 s.Light.X,G0 s.Light.Y,G0 s.Light.Z,E6 s.Rows,E5 s.Frames,E7 s.Tanks,G0 s.G3.Tolerance,G0 s.G3.Trim,G0 s.G3.List_,G0 s.G3.Stability])] O O O .scf ⟨.all id,G⟩ (fun hc=>Gh Qh O O O) ?_
 refine Ga (u:=En s.Covers.length) [(15,E4 s.Covers)] O O O .scf ⟨.all id,G⟩ (fun hc=>Qt (f:=Gg.av) (xs:=s.Covers) Hp O O) ?_
 refine Ga (u:=BL (decide (12 < (s.Covers.length:Int)))) [(16,En s.Covers.length)] O O O .scf ⟨.all id,G⟩ (fun hc=>G31 O O O) ?_
 refine JLh (BL ((decide (12 < (s.Columns.length:Int)))||(decide (12 < (s.Covers.length:Int))))) (Rn O O O O) O (JLh (BL ((decide (12 < (s.Columns.length:Int)))||(decide (12 < (s.Covers.length:Int))))) (G5 O O) O (Ga (u:=E2 boxes) [] O O O .scf G (fun hc=>G5 O O) ?_))
 refine Ga (u:=En boxes.length) [(20,E2 boxes)] O O O .scf ⟨.all id,G⟩ (fun hc=>Qt (f:=Gv.av) (xs:=boxes) J5 O O) ?_
 refine Ga (u:=BL (decide (30 < (boxes.length:Int)))) [(21,En boxes.length)] O O O .scf ⟨.all id,G⟩ (fun hc=>G31 O O O) ?_
 refine JLh (BL (((decide (12 < (s.Columns.length:Int)))||(decide (12 < (s.Covers.length:Int))))||(decide (30 < (boxes.length:Int))))) (Rn O O O O) O (G8 (hK3 _ _ (Gn O (fun hb=>?_) (fun hb=>?_))))
 ·
  replace h:=Gz hb h
  refine G7 fun K4 hK4=>G2 (JLh (BL false) (G9 O O) O (G8 (hK4 _ _ (Gu (⟨[BL false],[],G,O,⟨⟨_,O,.conv (.same O)⟩,G⟩,O,congrArg (fun r:Bool=>(BL r:AV)) (Option.some.inj h)⟩)))))
 ·
  replace h:=Hv hb h
  refine Gp (hK2 _ _ (G7 (fun K5 hK5=>G7 fun K6 hK6=>G2 (JLh (Ee s) (Gb Hi O O O) O (JLh (E3 s.Columns) (Gh Hq O O O) O (H3 (f:=G4.av) (xs:=s.Columns) H7 O O (fun hm26=>?_) O O O))))))
  refine JLh (G0 0) (G5 O O) O (G8 (hK6 _ _ (Gk ?_)))
  obtain⟨b21,kx21,hb21,hkx21,h⟩:=Hw h
  refine Hc (fun i21 (s21:Unit)=>each b21 kx21 (List.drop i21 s.Columns) i21 s21=some r) (fun i21 s21=>[(2,Ee s),(25,E3 s.Columns),(26,En s.Columns.length),(27,En i21)]) (fun i21 s21=>[]) (fun i21=>s.Columns.length - i21) 0 () h ⟨(by repeat' constructor),G,rfl⟩ ?_
  clear h
  intro i21 s21 hi21 K21 e21
  refine G7 fun K22 hK22=>G2 (JLh (BL (decide ((i21:Int) < (s.Columns.length:Int)))) (J2 O O O) O (G8 (hK22 _ _ (G7 (fun K23 hK23=>Gn O (fun hb=>?_) (fun hb=>?_))))))
  ·
   have hk21:=Jc hb
   obtain⟨y21,nx21,hy21,hn21,h⟩:=Hn hi21 hk21
   replace h:=Yb hb21 h
   refine Gp (hK23 _ _ (G7 (fun K24 hK24=>Gk (G7 fun K25 hK25=>G2 (JLh (Eh y21) (Gt (f:=G4.av) (xs:=s.Columns) (y:=y21) O O O H7 hy21 O) O (JLh (.agg (G4.cs y21)) (Gj Rr O O O) O (JLh (.ptr 1004 0) (Jb 1004 12 G5e O O) O (J4 (u:=.junk) (Ht (u:=.agg (G4.cs y21)) (ds:=(G4.cs y21)) Gb5 O O O O O O O O) (G8 (hK25 _ _ ?_))))))))))
   refine Gx [(2,Ee s),(6,Eh y21),(25,E3 s.Columns),(26,En s.Columns.length),(27,En i21)] [] 1004 rfl rfl rfl G rfl (by repeat' (first | exact .ptr | constructor)) (G7 fun K26 hK26=>G2 (JLh (.dptr ((G4.cs y21).drop 8)) (Gb Qp O O O) O (JLh (E1 y21.Plugs) (Gh Hg O O O) O (H3 (f:=G0) (xs:=y21.Plugs) H0 O O (fun hm33=>?_) O O O))))
   refine JLh (BL (decide (12 < (y21.Plugs.length:Int)))) (G31 O O O) O (JLh (BL (decide (12 < (y21.Plugs.length:Int)))) (G5 O O) O (Ga (u:=.dptr ((G4.cs y21).drop 3)) [] O O O .scf G (fun hc=>Gb Z1 O O O) ?_))
   refine Ga (u:=G0 y21.Tiers) [(36,.dptr ((G4.cs y21).drop 3))] O O O .scf ⟨.all id,G⟩ (fun hc=>Gh Gd O O O) ?_
   refine Ga (u:=BL (decide (10 < y21.Tiers))) [(37,G0 y21.Tiers)] O O O .scf ⟨.all id,G⟩ (fun hc=>G31 O O O) ?_
   refine JLh (BL ((decide (12 < (y21.Plugs.length:Int)))||(decide (10 < y21.Tiers)))) (Rn O O O O) O (G8 (hK26 _ _ (Gn O (fun hb=>?_) (fun hb=>?_))))
   ·
    replace h:=Gz hb h
    refine G7 fun K27 hK27=>G2 (JLh (BL false) (G9 O O) O (G8 (hK27 _ _ (Gu (⟨[BL false],[],G,O,⟨⟨_,O,.conv (.same O)⟩,G⟩,O,congrArg (fun r:Bool=>(BL r:AV)) (Option.some.inj h)⟩)))))
   ·
    replace h:=Hv hb h
    refine Gp (hK24 _ _ (G2 (JLh (G0 ((i21+1:Nat):Int)) (Hy (He hk21 hm26) O O O) O (JLh (G0 ((i21+1:Nat):Int)) (G5 O O) O (G8 (e21 _ _ (i21+1) () (app1 hn21 h) (by omega) ⟨(by repeat' constructor),G,rfl⟩))))))
  ·
   have h:=app1 hkx21 (Ho hi21 (H9 hb))
   refine Hk (hK5 _ _ (G7 (fun K28 hK28=>G7 fun K29 hK29=>G2 (JLh (.dptr [E4 s.Covers,G0 s.Light.Kilos,G0 s.Light.X,G0 s.Light.Y,G0 s.Light.Z,E6 s.Rows,E5 s.Frames,E7 s.Tanks,G0 s.G3.Tolerance,G0 s.G3.Trim,G0 s.G3.List_,G0 s.G3.Stability]) (Gb Jz O O O) O (JLh (E4 s.Covers) (Gh Qh O O O) O (H3 (f:=Gg.av) (xs:=s.Covers) Hp O O (fun hm43=>?_) O O O))))))
   refine JLh (G0 0) (G5 O O) O (G8 (hK29 _ _ (Gk ?_)))
   obtain⟨b44,kx44,hb44,hkx44,h⟩:=Hw h
   refine Hc (fun i44 (s44:Unit)=>each b44 kx44 (List.drop i44 s.Covers) i44 s44=some r) (fun i44 s44=>[(42,E4 s.Covers),(43,En s.Covers.length),(44,En i44)]) (fun i44 s44=>[]) (fun i44=>s.Covers.length - i44) 0 () h ⟨⟨.same O,.same O,.same O,G⟩,G,O⟩ ?_
   clear h
   intro i44 s44 hi44 K44 e44
   refine G7 fun K45 hK45=>G2 (JLh (BL (decide ((i44:Int) < (s.Covers.length:Int)))) (J2 O O O) O (G8 (hK45 _ _ (G7 (fun K46 hK46=>Gn O (fun hb=>?_) (fun hb=>?_))))))
   ·
    have hk44:=Jc hb
    obtain⟨y44,nx44,hy44,hn44,h⟩:=Hn hi44 hk44
    replace h:=Yb hb44 h
    refine Gp (hK46 _ _ (G7 (fun K47 hK47=>Gk (G7 fun K48 hK48=>G2 (JLh (.dptr [G0 y44.Bay,E1 y44.Rows]) (Gt (f:=Gg.av) (xs:=s.Covers) (y:=y44) O O O Hp hy44 O) O (JLh (.agg [G0 y44.Bay,E1 y44.Rows]) (Gj Rh O O O) O (JLh (.ptr 1005 0) (Jb 1005 2 G20 O O) O (J4 (u:=.junk) (Ht (u:=.agg [G0 y44.Bay,E1 y44.Rows]) (ds:=[G0 y44.Bay,E1 y44.Rows]) G54 O O O O O O O O) (G8 (hK48 _ _ (Gx [(8,.dptr [G0 y44.Bay,E1 y44.Rows]),(42,E4 s.Covers),(43,En s.Covers.length),(44,En i44)] [] 1005 rfl rfl rfl G rfl (by repeat' (first | exact .ptr | constructor)) ?_)))))))))))
    refine G7 fun K49 hK49=>G2 (JLh (.dptr [E1 y44.Rows]) (Gb Jr O O O) O (JLh (E1 y44.Rows) (Gh Hg O O O) O (H3 (f:=G0) (xs:=y44.Rows) H0 O O (fun hm50=>?_) O O O)))
    refine JLh (BL (decide (12 < (y44.Rows.length:Int)))) (G31 O O O) O (G8 (hK49 _ _ (Gn O (fun hb=>?_) (fun hb=>?_))))
    ·
     replace h:=Gz hb h
     refine G7 fun K50 hK50=>G2 (JLh (BL false) (G9 O O) O (G8 (hK50 _ _ (Gu (⟨[BL false],[],G,O,⟨⟨_,O,.conv (.same O)⟩,G⟩,O,congrArg (fun r:Bool=>(BL r:AV)) (Option.some.inj h)⟩)))))
    ·
     replace h:=Hv hb h
     refine Gp (hK47 _ _ (G2 (JLh (G0 ((i44+1:Nat):Int)) (Hy (He hk44 hm43) O O O) O (JLh (G0 ((i44+1:Nat):Int)) (G5 O O) O (G8 (e44 _ _ (i44+1) () (app1 hn44 h) (by omega) ⟨⟨.same rfl,.same rfl,.same rfl,G⟩,G,rfl⟩))))))
   ·
    have h:=app1 hkx44 (Ho hi44 (H9 hb))
    refine Hk (hK28 _ _ (G7 fun K51 hK51=>G2 (JLh (BL true) (G9 O O) O (G8 (hK51 _ _ (Gu (⟨[BL true],[],G,O,⟨⟨_,O,.conv (.same O)⟩,G⟩,O,congrArg (fun r:Bool=>(BL r:AV)) (Option.some.inj h)⟩)))))))

def G2c :Option Hb:=
 some (Hb.mk ([(G4.mk 0 0 false 2 0 0 0 0 [] 0 0 0),(G4.mk 0 1 false 2 0 0 0 0 [] 0 0 0),(G4.mk 0 0 true 3 0 0 0 0 [] 0 0 0),(G4.mk 0 1 true 3 0 0 0 0 [] 0 0 0),(G4.mk 1 1 true 4 0 0 0 0 [] 0 0 0)]) ([(Gg.mk 0 [0,1])]) (Light.mk 0 0 0 0) [] [] [] (G3.mk 0 0 0 0))
theorem Gf3  (r:Hb) (h:G2c =some r):Pure Tryz.prog 61 [] (·=.agg (Hb.cs r)):=by
 unfold G2c at h
 refine H1 [.cell 0 32] Tryz.func61 O O (G7 fun K1 hK1=>G2 (JLh (.ptr 1031 0) (Zc 1031 [E3 ([]:List G4),E4 ([]:List Gg),G0 0,G0 0,G0 0,G0 0,E6 ([]:List Row),E5 ([]:List Frame),E7 ([]:List Gr),G0 0,G0 0,G0 0,G0 0] [.slice none 0 0,.slice none 0 0,.int .i64 0,.int .i64 0,.int .i64 0,.int .i64 0,.slice none 0 0,.slice none 0 0,.slice none 0 0,.int .i64 0,.int .i64 0,.int .i64 0,.int .i64 0] Hb8 ⟨.inr ⟨_,O,O⟩,.inr ⟨_,O,O⟩,.inl O,.inl O,.inl O,.inl O,.inr ⟨_,O,O⟩,.inr ⟨_,O,O⟩,.inr ⟨_,O,O⟩,.inl O,.inl O,.inl O,.inl O,G⟩ O O) O (G8 (hK1 _ _ ?_))))
 refine G7 fun K2 hK2=>G2 (JLh (.agg [G0 0,G0 0,BL false,G0 2,G0 0,G0 0,G0 0,G0 0,E1 ([]:List Int),G0 0,G0 0,G0 0]) (Jv (cs:=[G0 0,G0 0,BL false,G0 2,G0 0,G0 0,G0 0,G0 0,E1 ([]:List Int),G0 0,G0 0,G0 0]) [(0,1),(1,1),(2,1),(3,1),(4,1),(5,1),(6,1),(7,1),(8,1),(9,1),(10,1),(11,1)] [G0 0,G0 0,BL false,G0 0,G0 0,G0 0,G0 0,G0 0,E1 ([]:List Int),G0 0,G0 0,G0 0] [.int .i64 0,.int .i64 0,.bool false,.int .i64 0,.int .i64 0,.int .i64 0,.int .i64 0,.int .i64 0,.slice none 0 0,.int .i64 0,.int .i64 0,.int .i64 0] G49 G3a ⟨.inl O,.inl O,.inl O,.inl O,.inl O,.inl O,.inl O,.inl O,.inr ⟨_,O,O⟩,.inl O,.inl O,.inl O,G⟩ O O) O (JLh (.agg [G0 0,G0 1,BL false,G0 2,G0 0,G0 0,G0 0,G0 0,E1 ([]:List Int),G0 0,G0 0,G0 0]) (Jv (cs:=[G0 0,G0 1,BL false,G0 2,G0 0,G0 0,G0 0,G0 0,E1 ([]:List Int),G0 0,G0 0,G0 0]) [(0,1),(1,1),(2,1),(3,1),(4,1),(5,1),(6,1),(7,1),(8,1),(9,1),(10,1),(11,1)] [G0 0,G0 0,BL false,G0 0,G0 0,G0 0,G0 0,G0 0,E1 ([]:List Int),G0 0,G0 0,G0 0] [.int .i64 0,.int .i64 0,.bool false,.int .i64 0,.int .i64 0,.int .i64 0,.int .i64 0,.int .i64 0,.slice none 0 0,.int .i64 0,.int .i64 0,.int .i64 0] G49 G3a ⟨.inl O,.inl O,.inl O,.inl O,.inl O,.inl O,.inl O,.inl O,.inr ⟨_,O,O⟩,.inl O,.inl O,.inl O,G⟩ O O) O (JLh (.agg [G0 0,G0 0,BL true,G0 3,G0 0,G0 0,G0 0,G0 0,E1 ([]:List Int),G0 0,G0 0,G0 0]) (Jv (cs:=[G0 0,G0 0,BL true,G0 3,G0 0,G0 0,G0 0,G0 0,E1 ([]:List Int),G0 0,G0 0,G0 0]) [(0,1),(1,1),(2,1),(3,1),(4,1),(5,1),(6,1),(7,1),(8,1),(9,1),(10,1),(11,1)] [G0 0,G0 0,BL false,G0 0,G0 0,G0 0,G0 0,G0 0,E1 ([]:List Int),G0 0,G0 0,G0 0] [.int .i64 0,.int .i64 0,.bool false,.int .i64 0,.int .i64 0,.int .i64 0,.int .i64 0,.int .i64 0,.slice none 0 0,.int .i64 0,.int .i64 0,.int .i64 0] G49 G3a ⟨.inl O,.inl O,.inl O,.inl O,.inl O,.inl O,.inl O,.inl O,.inr ⟨_,O,O⟩,.inl O,.inl O,.inl O,G⟩ O O) O (JLh (.agg [G0 0,G0 1,BL true,G0 3,G0 0,G0 0,G0 0,G0 0,E1 ([]:List Int),G0 0,G0 0,G0 0]) (Jv (cs:=[G0 0,G0 1,BL true,G0 3,G0 0,G0 0,G0 0,G0 0,E1 ([]:List Int),G0 0,G0 0,G0 0]) [(0,1),(1,1),(2,1),(3,1),(4,1),(5,1),(6,1),(7,1),(8,1),(9,1),(10,1),(11,1)] [G0 0,G0 0,BL false,G0 0,G0 0,G0 0,G0 0,G0 0,E1 ([]:List Int),G0 0,G0 0,G0 0] [.int .i64 0,.int .i64 0,.bool false,.int .i64 0,.int .i64 0,.int .i64 0,.int .i64 0,.int .i64 0,.slice none 0 0,.int .i64 0,.int .i64 0,.int .i64 0] G49 G3a ⟨.inl O,.inl O,.inl O,.inl O,.inl O,.inl O,.inl O,.inl O,.inr ⟨_,O,O⟩,.inl O,.inl O,.inl O,G⟩ O O) O (JLh (.agg [G0 1,G0 1,BL true,G0 4,G0 0,G0 0,G0 0,G0 0,E1 ([]:List Int),G0 0,G0 0,G0 0]) (Jv (cs:=[G0 1,G0 1,BL true,G0 4,G0 0,G0 0,G0 0,G0 0,E1 ([]:List Int),G0 0,G0 0,G0 0]) [(0,1),(1,1),(2,1),(3,1),(4,1),(5,1),(6,1),(7,1),(8,1),(9,1),(10,1),(11,1)] [G0 0,G0 0,BL false,G0 0,G0 0,G0 0,G0 0,G0 0,E1 ([]:List Int),G0 0,G0 0,G0 0] [.int .i64 0,.int .i64 0,.bool false,.int .i64 0,.int .i64 0,.int .i64 0,.int .i64 0,.int .i64 0,.slice none 0 0,.int .i64 0,.int .i64 0,.int .i64 0] G49 G3a ⟨.inl O,.inl O,.inl O,.inl O,.inl O,.inl O,.inl O,.inl O,.inr ⟨_,O,O⟩,.inl O,.inl O,.inl O,G⟩ O O) O (JLh (E3 ([(G4.mk 0 0 false 2 0 0 0 0 [] 0 0 0),(G4.mk 0 1 false 2 0 0 0 0 [] 0 0 0),(G4.mk 0 0 true 3 0 0 0 0 [] 0 0 0),(G4.mk 0 1 true 3 0 0 0 0 [] 0 0 0),(G4.mk 1 1 true 4 0 0 0 0 [] 0 0 0)])) (Hm (xs:=[.agg [G0 0,G0 0,BL false,G0 2,G0 0,G0 0,G0 0,G0 0,E1 ([]:List Int),G0 0,G0 0,G0 0],.agg [G0 0,G0 1,BL false,G0 2,G0 0,G0 0,G0 0,G0 0,E1 ([]:List Int),G0 0,G0 0,G0 0],.agg [G0 0,G0 0,BL true,G0 3,G0 0,G0 0,G0 0,G0 0,E1 ([]:List Int),G0 0,G0 0,G0 0],.agg [G0 0,G0 1,BL true,G0 3,G0 0,G0 0,G0 0,G0 0,E1 ([]:List Int),G0 0,G0 0,G0 0],.agg [G0 1,G0 1,BL true,G0 4,G0 0,G0 0,G0 0,G0 0,E1 ([]:List Int),G0 0,G0 0,G0 0]]) O ⟨O,O,O,O,O,O,O,O,O,O,G⟩ H7 G5e O O O O) O (JLh (E1 [0,1]) (Hm (xs:=[G0 0,G0 1]) O ⟨O,O,O,O,G⟩ H0 G13 O O O O) O (JLh (.agg [G0 0,E1 [0,1]]) (Jv (cs:=[G0 0,E1 [0,1]]) [(0,1),(1,1)] [G0 0,E1 ([]:List Int)] [.int .i64 0,.slice none 0 0] Hb1 H12 ⟨.inl O,.inr ⟨_,O,O⟩,G⟩ O O) O (JLh (E4 ([(Gg.mk 0 [0,1])])) (Hm (xs:=[.agg [G0 0,E1 [0,1]]]) O ⟨O,O,G⟩ Hp G20 O O O O) O (JLh (.agg [E3 ([(G4.mk 0 0 false 2 0 0 0 0 [] 0 0 0),(G4.mk 0 1 false 2 0 0 0 0 [] 0 0 0),(G4.mk 0 0 true 3 0 0 0 0 [] 0 0 0),(G4.mk 0 1 true 3 0 0 0 0 [] 0 0 0),(G4.mk 1 1 true 4 0 0 0 0 [] 0 0 0)]),E4 ([(Gg.mk 0 [0,1])]),G0 0,G0 0,G0 0,G0 0,E6 ([]:List Row),E5 ([]:List Frame),E7 ([]:List Gr),G0 0,G0 0,G0 0,G0 0]) (Jv (cs:=[E3 ([(G4.mk 0 0 false 2 0 0 0 0 [] 0 0 0),(G4.mk 0 1 false 2 0 0 0 0 [] 0 0 0),(G4.mk 0 0 true 3 0 0 0 0 [] 0 0 0),(G4.mk 0 1 true 3 0 0 0 0 [] 0 0 0),(G4.mk 1 1 true 4 0 0 0 0 [] 0 0 0)]),E4 ([(Gg.mk 0 [0,1])]),G0 0,G0 0,G0 0,G0 0,E6 ([]:List Row),E5 ([]:List Frame),E7 ([]:List Gr),G0 0,G0 0,G0 0,G0 0]) [(0,1),(1,1),(2,4),(6,1),(7,1),(8,1),(9,4)] [E3 ([]:List G4),E4 ([]:List Gg),G0 0,G0 0,G0 0,G0 0,E6 ([]:List Row),E5 ([]:List Frame),E7 ([]:List Gr),G0 0,G0 0,G0 0,G0 0] [.slice none 0 0,.slice none 0 0,.int .i64 0,.int .i64 0,.int .i64 0,.int .i64 0,.slice none 0 0,.slice none 0 0,.slice none 0 0,.int .i64 0,.int .i64 0,.int .i64 0,.int .i64 0] Jac Hb8 ⟨.inr ⟨_,O,O⟩,.inr ⟨_,O,O⟩,.inl O,.inl O,.inl O,.inl O,.inr ⟨_,O,O⟩,.inr ⟨_,O,O⟩,.inr ⟨_,O,O⟩,.inl O,.inl O,.inl O,.inl O,G⟩ O O) O (J4 (u:=.junk) (Ht (u:=.agg [E3 ([(G4.mk 0 0 false 2 0 0 0 0 [] 0 0 0),(G4.mk 0 1 false 2 0 0 0 0 [] 0 0 0),(G4.mk 0 0 true 3 0 0 0 0 [] 0 0 0),(G4.mk 0 1 true 3 0 0 0 0 [] 0 0 0),(G4.mk 1 1 true 4 0 0 0 0 [] 0 0 0)]),E4 ([(Gg.mk 0 [0,1])]),G0 0,G0 0,G0 0,G0 0,E6 ([]:List Row),E5 ([]:List Frame),E7 ([]:List Gr),G0 0,G0 0,G0 0,G0 0]) (ds:=[E3 ([(G4.mk 0 0 false 2 0 0 0 0 [] 0 0 0),(G4.mk 0 1 false 2 0 0 0 0 [] 0 0 0),(G4.mk 0 0 true 3 0 0 0 0 [] 0 0 0),(G4.mk 0 1 true 3 0 0 0 0 [] 0 0 0),(G4.mk 1 1 true 4 0 0 0 0 [] 0 0 0)]),E4 ([(Gg.mk 0 [0,1])]),G0 0,G0 0,G0 0,G0 0,E6 ([]:List Row),E5 ([]:List Frame),E7 ([]:List Gr),G0 0,G0 0,G0 0,G0 0]) H47 O O O O O O O O) (G8 (hK2 _ _ ?_)))))))))))))
 refine Gu (⟨[.agg [E3 ([(G4.mk 0 0 false 2 0 0 0 0 [] 0 0 0),(G4.mk 0 1 false 2 0 0 0 0 [] 0 0 0),(G4.mk 0 0 true 3 0 0 0 0 [] 0 0 0),(G4.mk 0 1 true 3 0 0 0 0 [] 0 0 0),(G4.mk 1 1 true 4 0 0 0 0 [] 0 0 0)]),E4 ([(Gg.mk 0 [0,1])]),G0 0,G0 0,G0 0,G0 0,E6 ([]:List Row),E5 ([]:List Frame),E7 ([]:List Gr),G0 0,G0 0,G0 0,G0 0]],[],G,O,⟨⟨_,⟨_,_,_,_,O,O,O,.inl ⟨J8,O⟩⟩,.conv (.same O)⟩,G⟩,O,congrArg (fun r:Hb=>(.agg (Hb.cs r):AV)) (Option.some.inj h)⟩)

def Js (box:Int) (column:Int) (tier:Int):Option G6:=
 some (G6.mk box (Slot.mk column tier 0))
theorem Ju (box:Int) (column:Int) (tier:Int) (r:G6) (h:Js box column tier=some r):Pure Tryz.prog 62 [G0 box,G0 column,G0 tier] (·=.agg (G6.cs r)):=by
 unfold Js at h
 refine H1 [.cell 6 121] Tryz.func62 O O (G7 fun K1 hK1=>G2 (JLh (.ptr 1032 0) (Zc 1032 [G0 0,G0 0,G0 0,U8 0] [.int .i64 0,.int .i64 0,.int .i64 0,.int .u8 0] H10 ⟨.inl O,.inl O,.inl O,.inl O,G⟩ O O) O (G8 (hK1 _ _ ?_))))
 refine G7 fun K2 hK2=>G2 (JLh (G0 box) (G5 O O) O (JLh (G0 column) (G5 O O) O (JLh (G0 tier) (G5 O O) O (JLh (.agg [G0 column,G0 tier,U8 0]) (Jv (cs:=[G0 column,G0 tier,U8 0]) [(0,1),(1,1),(2,1)] [G0 0,G0 0,U8 0] [.int .i64 0,.int .i64 0,.int .u8 0] H21 H11 ⟨.inl O,.inl O,.inl O,G⟩ O O) O (JLh (.agg [G0 box,G0 column,G0 tier,U8 0]) (Jv (cs:=[G0 box,G0 column,G0 tier,U8 0]) [(0,1),(1,3)] [G0 0,G0 0,G0 0,U8 0] [.int .i64 0,.int .i64 0,.int .i64 0,.int .u8 0] Hb0 H10 ⟨.inl O,.inl O,.inl O,.inl O,G⟩ O O) O (J4 (u:=.junk) (Ht (u:=.agg [G0 box,G0 column,G0 tier,U8 0]) (ds:=[G0 box,G0 column,G0 tier,U8 0]) G0c O O O O O O O O) (G8 (hK2 _ _ (Gu ?_)))))))))
 exact⟨[.agg [G0 box,G0 column,G0 tier,U8 0]],[],G,O,⟨⟨_,⟨_,_,_,_,O,O,O,.inl ⟨Yo,O⟩⟩,.conv (.same O)⟩,G⟩,O,congrArg (fun r:G6=>(.agg (G6.cs r):AV)) (Option.some.inj h)⟩

def G99 (l:List G6):Option (List Slot):=
 each (fun y17 i17 (s17:(List Slot)) nx17=>
  need (decide ((s17.length+[y17.Slot].length)*24≤140737488355328∧s17.length+[y17.Slot].length≤maxLen)) <|
  nx17 (s17++[y17.Slot]))
 (fun(s17:(List Slot))=>
  some s17) l 0 []
theorem J88 (l:List G6) (r:(List Slot)) (h:G99 l=some r):Pure Tryz.prog 151 [E0 l] (·=E8 r):=by
 unfold G99 at h
 refine H1 [.tmp 2] Tryz.func151 O O (G7 fun K1 hK1=>G2 (JLh (E8 ([]:List Slot)) (R4 3 O O) O (G8 (hK1 _ _ (G7 fun K2 hK2=>G2 (JLh (OW 1091 3 Slot.av ([]:List Slot)) (H3f 1091 119 3 O O O) O (G8 (hK2 _ _ (G7 (fun K3 hK3=>G7 fun K4 hK4=>G2 (JLh (E0 l) (G5 O O) O (H3 (f:=G6.av) (xs:=l) H2 O O (fun hm7=>?_) O O O))))))))))))
 refine JLh (G0 0) (G5 O O) O (G8 (hK4 _ _ (Gk ?_)))
 obtain⟨b17,kx17,hb17,hkx17,h⟩:=Hw h
 refine Hc (fun i17 (s17:(List Slot))=>each b17 kx17 (List.drop i17 l) i17 s17=some r) (fun i17 s17=>[(3,OW 1091 3 Slot.av s17),(6,E0 l),(7,En l.length),(8,En i17)]) (fun i17 s17=>[(1091,.spare 119 3 s17.length s17.length)]) (fun i17=>l.length - i17) 0 [] h ⟨(by repeat' constructor),⟨⟨_,rfl,.same⟩,G⟩,rfl⟩ ?_
 clear h
 intro i17 s17 hi17 K17 e17
 refine G7 fun K18 hK18=>G2 (JLh (BL (decide ((i17:Int) < (l.length:Int)))) (J2 O O O) O (G8 (hK18 _ _ (G7 (fun K19 hK19=>Gn O (fun hb=>?_) (fun hb=>?_))))))
 ·
  have hk17:=Jc hb
  obtain⟨y17,nx17,hy17,hn17,h⟩:=Hn hi17 hk17
  replace h:=Yb hb17 h
  refine Gp (hK19 _ _ (G7 (fun K20 hK20=>Gk (G7 fun K21 hK21=>G2 (JLh (Ef y17) (Gt (f:=G6.av) (xs:=l) (y:=y17) O O O H2 hy17 O) O (JLh (.agg (G6.cs y17)) (Gj Yo O O O) O (JLh (.ptr 1092 0) (Jb 1092 4 R9 O O) O (J4 (u:=.junk) (Ht (u:=.agg (G6.cs y17)) (ds:=[G0 y17.Gv,G0 y17.Slot.G4,G0 y17.Slot.Tier,U8 y17.Slot.Half]) G0c O O O O O O O O) (G8 (hK21 _ _ (Gx [(3,OW 1091 3 Slot.av s17),(5,Ef y17),(6,E0 l),(7,En l.length),(8,En i17)] [(1091,.spare 119 3 s17.length s17.length)] 1092 rfl rfl rfl ⟨⟨_,rfl,.same⟩,G⟩ rfl (by repeat' (first | exact .ptr | constructor)) (G2 ?_))))))))))))
  refine JLh (OW 1091 3 Slot.av s17) (G5 O O) O (JLh (Eg y17.Slot) (Gb Hz O O O) O (JLh (.agg (Slot.cs y17.Slot)) (Gj Jh O O O) O (JLh (E8 [y17.Slot]) (Hm (xs:=[.agg (Slot.cs y17.Slot)]) O ⟨O,O,G⟩ Rx Zo O O O O) O ?_)))
  obtain⟨ha22,h⟩:=J6 h
  refine JLh (OW 1091 3 Slot.av (s17++[y17.Slot])) (Yd (f:=Slot.av) (xs:=s17) (ys:=[y17.Slot]) O O O O Rx J17 ha22 (fun _=>O) (.inl O) O) O (JLh (OW 1091 3 Slot.av (s17++[y17.Slot])) (G9 O O) O (G8 (hK20 _ _ (G2 (JLh (G0 ((i17+1:Nat):Int)) (Hy (He hk17 hm7) O O O) O (JLh (G0 ((i17+1:Nat):Int)) (G5 O O) O (G8 (e17 _ _ (i17+1) (s17++[y17.Slot]) (app1 hn17 h) (by omega) ⟨(by repeat' constructor),⟨⟨_,rfl,.same⟩,G⟩,rfl⟩))))))))
 ·
  have h:=app1 hkx17 (Ho hi17 (H9 hb))
  refine Hk (hK3 _ _ (G7 fun K23 hK23=>G2 (JLh (OW 1091 3 Slot.av s17) (G5 O O) O (JLh (OW 1091 3 Slot.av s17) (G9 O O) O (G8 (hK23 _ _ (Gu (⟨[E8 s17],[],G,O,⟨⟨_,O,.conv (.list O)⟩,G⟩,O,congrArg (fun r:(List Slot)=>(E8 r:AV)) (Option.some.inj h)⟩))))))))

def G74 (b:Gv) (p1:Int):Option Bool:=
 some (decide (b.ID=p1))
theorem J45 (b:Gv) (p1:Int) (r:Bool) (h:G74 b p1=some r):Pure Tryz.prog 243 [.agg (Gv.cs b),.dptr [G0 p1]] (·=BL r):=by
 unfold G74 at h
 refine H1 [.tmp 3] Tryz.func243 O O (G7 fun K1 hK1=>G2 (JLh (.ptr 1136 0) (Jy (u:=.agg (Gv.cs b)) (cs:=(Gv.cs b)) 1136 O O O O O) O (JLh (BL false) (G9 O O) O (G8 (hK1 _ _ (Gx [(1,.dptr [G0 p1]),(2,Ei b)] [] 1136 rfl rfl rfl G rfl (by exact⟨.conv (.same rfl),.ptr,G⟩) (G7 fun K2 hK2=>G2 (JLh (Ei b) (Gb G14 O O O) O (JLh (G0 b.ID) (Gh Gd O O O) O (JLh (G0 p1) (Gh Gd O O O) O (JLh (BL (decide (b.ID=p1))) (Jx O O O) O (JLh (BL (decide (b.ID=p1))) (G9 O O) O (G8 (hK2 _ _ (Gu ?_)))))))))))))))
 exact⟨[BL (decide (b.ID=p1))],[],G,O,⟨⟨_,O,.conv (.same O)⟩,G⟩,O,congrArg (fun r:Bool=>(BL r:AV)) (Option.some.inj h)⟩

def Ze (s:List Gv) (f:Gv→Option Bool):Option Int:=
 each (fun y20 i20 (s20:Unit) nx20=>
  bnd (f y20) fun r26=>
  bif r26 then
  (some (i20:Int))
  else
  (nx20 ()))
 (fun(s20:Unit)=>
  some (-1)) s 0 ()
theorem Gd9 (s:List Gv) (f:Gv→Option Bool) (f_f:FuncId) (f_c:List AV) (f_B:Hf Tryz.prog f_f=true) (f_d:Zm (fun _=>false) f_c=true) (f_w:∀ a0 q,f a0=some q→Pure Tryz.prog f_f ([.agg (Gv.cs a0)]++f_c) (·=BL q)) (r:Int) (h:Ze s f=some r):Pure Tryz.prog 242 [E2 s,.fn f_f f_c] (·=G0 r):=by
 unfold Ze at h
 refine H1 [.tmp 4] Tryz.func242 O O (G7 fun K1 hK1=>G2 (JLh (G0 0) (G9 O O) O (G8 (hK1 _ _ (G7 (fun K2 hK2=>G7 fun K3 hK3=>G2 (JLh (E2 s) (G5 O O) O (H3 (f:=Gv.av) (xs:=s) J5 O O (fun hm7=>?_) O O O))))))))
 refine JLh (G0 0) (G5 O O) O (G8 (hK3 _ _ (Gk ?_)))
 obtain⟨b20,kx20,hb20,hkx20,h⟩:=Hw h
 refine Hc (fun i20 (s20:Unit)=>each b20 kx20 (List.drop i20 s) i20 s20=some r) (fun i20 s20=>[(0,E2 s),(1,.fn f_f f_c),(7,En s.length),(8,En i20)]) (fun i20 s20=>[]) (fun i20=>s.length - i20) 0 () h ⟨⟨.same O,.same (Qb _ _ f_d),.same O,.same O,G⟩,G,O⟩ ?_
 clear h
 intro i20 s20 hi20 K20 e20
 refine G7 fun K21 hK21=>G2 (JLh (BL (decide ((i20:Int) < (s.length:Int)))) (J2 O O O) O (G8 (hK21 _ _ (G7 (fun K22 hK22=>Gn O (fun hb=>?_) (fun hb=>?_))))))
 ·
  have hk20:=Jc hb
  obtain⟨y20,nx20,hy20,hn20,h⟩:=Hn hi20 hk20
  replace h:=Yb hb20 h
  refine Gp (hK22 _ _ (G7 (fun K23 hK23=>Gk (G7 fun K24 hK24=>G2 (JLh (En i20) (G5 O O) O (JLh (En i20) (G9 O O) O (G8 (hK24 _ _ (G7 fun K25 hK25=>G2 (JLh (.fn f_f f_c) (G5 O O) O (JLh (E2 s) (G5 O O) O (JLh (En i20) (G5 O O) O (JLh (Ei y20) (Gt (f:=Gv.av) (xs:=s) (y:=y20) O O O J5 hy20 O) O (JLh (.agg (Gv.cs y20)) (Gj Z5 O O O) O ?_))))))))))))))
  obtain⟨r26,hr26,h⟩:=Gf h
  refine JLh (BL r26) (G47 (args:=[.agg (Gv.cs y20)]) (caps:=f_c) O O (f_w y20 _ hr26) f_B ⟨O,O,G⟩ f_d) O (G8 (hK25 _ _ (Gn O (fun hb=>?_) (fun hb=>?_))))
  ·
   replace h:=Gz hb h
   refine G7 fun K27 hK27=>G2 (JLh (En i20) (G5 O O) O (JLh (En i20) (G9 O O) O (G8 (hK27 _ _ (Gu (⟨[En i20],[],G,O,⟨⟨_,O,.conv (.same O)⟩,G⟩,O,congrArg (fun r:Int=>(G0 r:AV)) (Option.some.inj h)⟩))))))
  ·
   replace h:=Hv hb h
   refine Gp (hK23 _ _ (G2 (JLh (G0 ((i20+1:Nat):Int)) (Hy (He hk20 hm7) O O O) O (JLh (G0 ((i20+1:Nat):Int)) (G5 O O) O (G8 (e20 _ _ (i20+1) () (app1 hn20 h) (by omega) ⟨⟨.same rfl,.same (Qb _ _ f_d),.same rfl,.same rfl,G⟩,G,rfl⟩))))))
 ·
  have h:=app1 hkx20 (Ho hi20 (H9 hb))
  refine Hk (hK2 _ _ (G7 fun K28 hK28=>G2 (JLh (G0 (-1)) (G9 O O) O (G8 (hK28 _ _ (Gu (⟨[G0 (-1)],[],G,O,⟨⟨_,O,.conv (.same O)⟩,G⟩,O,congrArg (fun r:Int=>(G0 r:AV)) (Option.some.inj h)⟩)))))))

def G88 (boxes:List Gv) (id_:Int):Option (Gv×Bool):=
 bnd (Ze boxes (fun z0=>G74 z0 id_)) fun r3=>
 bif decide (r3 < 0) then
 (some ((Gv.mk 0 ByteArray.empty 0 false 0 0 0 0 false),false))
 else
 (Q3 boxes r3 fun y8=>
  some (y8,true))
theorem Hb6 (boxes:List Gv) (id_:Int) (r:Gv×Bool) (h:G88 boxes id_=some r):Pure Tryz.prog 152 [E2 boxes,G0 id_] (·=.tup [.agg (Gv.cs r.1),BL r.2]):=by
 unfold G88 at h
 refine H1 [.cell 4 117,.tmp 5] Tryz.func152 O O (G7 fun K1 hK1=>G2 (JLh (.ptr 1093 0) (Jy (u:=G0 id_) (cs:=[G0 id_]) 1093 O O O O O) O (JLh (.ptr 1094 0) (Zc 1094 [G0 0,ST ByteArray.empty,U8 0,BL false,G0 0,G0 0,G0 0,U8 0,BL false] [.int .i64 0,.string ByteArray.empty,.int .u8 0,.bool false,.int .i64 0,.int .i64 0,.int .i64 0,.int .u8 0,.bool false] G21 ⟨.inl O,.inl O,.inl O,.inl O,.inl O,.inl O,.inl O,.inl O,.inl O,G⟩ O O) O (JLh (BL false) (G9 O O) O (G8 (hK1 _ _ (Gx [(0,E2 boxes),(3,.dptr [G0 id_]),(4,.ptr 1094 0)] [(1094,.box 117 [G0 0,ST ByteArray.empty,U8 0,BL false,G0 0,G0 0,G0 0,U8 0,BL false])] 1093 rfl rfl rfl ⟨⟨_,rfl,.boxEq rfl rfl⟩,G⟩ rfl (by exact⟨.conv (.same rfl),.ptr,.conv (.same rfl),G⟩) ?_)))))))
 refine G7 fun K2 hK2=>G2 (JLh (E2 boxes) (G5 O O) O (JLh (.fn 243 [.dptr [G0 id_]]) (G30 (cs:=[.dptr [G0 id_]]) O O) O ?_))
 obtain⟨r3,hr3,h⟩:=Gf h
 refine JLh (G0 r3) (Gq (args:=[E2 boxes,.fn 243 [.dptr [G0 id_]]]) O (Gd9 boxes (fun z0=>G74 z0 id_) 243 [.dptr [G0 id_]] Jc5 O (fun z0 q hq=>J45 z0 id_ q hq) r3 hr3) Jc6 ⟨O,O,O,O,G⟩) O (JLh (G0 r3) (G9 O O) O (G8 (hK2 _ _ (G7 (fun K4 hK4=>G7 fun K5 hK5=>G2 (JLh (G0 r3) (G5 O O) O (JLh (BL (decide (r3 < 0))) (J2 O O O) O (G8 (hK5 _ _ (Gn O (fun hb=>?_) (fun hb=>?_)))))))))))
 ·
  replace h:=Gz hb h
  refine G7 fun K6 hK6=>G2 (JLh (.agg [G0 0,ST ByteArray.empty,U8 0,BL false,G0 0,G0 0,G0 0,U8 0,BL false]) (Jv (cs:=[G0 0,ST ByteArray.empty,U8 0,BL false,G0 0,G0 0,G0 0,U8 0,BL false]) [(0,1),(1,1),(2,1),(3,1),(4,1),(5,1),(6,1),(7,1),(8,1)] [G0 0,ST ByteArray.empty,U8 0,BL false,G0 0,G0 0,G0 0,U8 0,BL false] [.int .i64 0,.string ByteArray.empty,.int .u8 0,.bool false,.int .i64 0,.int .i64 0,.int .i64 0,.int .u8 0,.bool false] G48 G21 ⟨.inl O,.inl O,.inl O,.inl O,.inl O,.inl O,.inl O,.inl O,.inl O,G⟩ O O) O (J4 (u:=.junk) (Ht (u:=.agg [G0 0,ST ByteArray.empty,U8 0,BL false,G0 0,G0 0,G0 0,U8 0,BL false]) (ds:=[G0 0,ST ByteArray.empty,U8 0,BL false,G0 0,G0 0,G0 0,U8 0,BL false]) Zt O O O O O O O O) (JLh (BL false) (G9 O O) O (G8 (hK6 _ _ ?_)))))
  refine Gu (⟨[.agg [G0 0,ST ByteArray.empty,U8 0,BL false,G0 0,G0 0,G0 0,U8 0,BL false],BL false],[],G,O,⟨⟨_,⟨_,_,_,_,O,O,O,.inl ⟨Z5,O⟩⟩,.conv (.same O)⟩,⟨_,O,.conv (.same O)⟩,G⟩,O,congrArg (fun r:Gv×Bool=>(.tup [.agg (Gv.cs r.1),BL r.2]:AV)) (Option.some.inj h)⟩)
 ·
  replace h:=Hv hb h
  refine Gp (hK4 _ _ (G7 fun K7 hK7=>G2 (JLh (E2 boxes) (G5 O O) O (JLh (G0 r3) (G5 O O) O ?_))))
  obtain⟨m9,y8,hm9,hy8,h⟩:=Y3 h
  refine JLh (Ei y8) (Gt (f:=Gv.av) (xs:=boxes) (y:=y8) O O O J5 hy8 hm9) O (JLh (.agg (Gv.cs y8)) (Gj Z5 O O O) O (J4 (u:=.junk) (Ht (u:=.agg (Gv.cs y8)) (ds:=(Gv.cs y8)) Zt O O O O O O O O) (JLh (BL true) (G9 O O) O (G8 (hK7 _ _ (Gu (⟨[.agg (Gv.cs y8),BL true],[],G,O,⟨⟨_,⟨_,_,_,_,O,O,O,.inl ⟨Z5,O⟩⟩,.conv (.same O)⟩,⟨_,O,.conv (.same O)⟩,G⟩,O,congrArg (fun r:Gv×Bool=>(.tup [.agg (Gv.cs r.1),BL r.2]:AV)) (Option.some.inj h)⟩)))))))

def Zw (s:List Int) (v:Int):Option Int:=
 each (fun y18 i18 (s18:Unit) nx18=>
  bif decide (v=y18) then
  (some (i18:Int))
  else
  (nx18 ()))
 (fun(s18:Unit)=>
  some (-1)) s 0 ()
theorem H5b (s:List Int) (v:Int) (r:Int) (h:Zw s v=some r):Pure Tryz.prog 288 [E9 s,U8 v] (·=G0 r):=by
 unfold Zw at h
 refine H1 [.tmp 4] Tryz.func288 O O (G7 fun K1 hK1=>G2 (JLh (G0 0) (G9 O O) O (G8 (hK1 _ _ (G7 (fun K2 hK2=>G7 fun K3 hK3=>G2 (JLh (E9 s) (G5 O O) O (H3 (f:=U8) (xs:=s) Gcc O O (fun hm7=>?_) O O O))))))))
 refine JLh (G0 0) (G5 O O) O (G8 (hK3 _ _ (Gk ?_)))
 obtain⟨b18,kx18,hb18,hkx18,h⟩:=Hw h
 refine Hc (fun i18 (s18:Unit)=>each b18 kx18 (List.drop i18 s) i18 s18=some r) (fun i18 s18=>[(0,E9 s),(1,U8 v),(7,En s.length),(8,En i18)]) (fun i18 s18=>[]) (fun i18=>s.length - i18) 0 () h ⟨(by repeat' constructor),G,rfl⟩ ?_
 clear h
 intro i18 s18 hi18 K18 e18
 refine G7 fun K19 hK19=>G2 (JLh (BL (decide ((i18:Int) < (s.length:Int)))) (J2 O O O) O (G8 (hK19 _ _ (G7 (fun K20 hK20=>Gn O (fun hb=>?_) (fun hb=>?_))))))
 ·
  have hk18:=Jc hb
  obtain⟨y18,nx18,hy18,hn18,h⟩:=Hn hi18 hk18
  replace h:=Yb hb18 h
  refine Gp (hK20 _ _ (G7 (fun K21 hK21=>Gk (G7 fun K22 hK22=>G2 (JLh (En i18) (G5 O O) O (JLh (En i18) (G9 O O) O (G8 (hK22 _ _ (G7 fun K23 hK23=>G2 (JLh (U8 v) (G5 O O) O (JLh (E9 s) (G5 O O) O (JLh (En i18) (G5 O O) O (JLh (.dptr [U8 y18]) (Gt (f:=U8) (xs:=s) (y:=y18) O O O Gcc hy18 O) O (JLh (U8 y18) (Gh Jn O O O) O (JLh (BL (decide (v=y18))) (Jx O O O) O (G8 (hK23 _ _ (Gn O (fun hb=>?_) (fun hb=>?_)))))))))))))))))))
  ·
   replace h:=Gz hb h
   refine G7 fun K24 hK24=>G2 (JLh (En i18) (G5 O O) O (JLh (En i18) (G9 O O) O (G8 (hK24 _ _ (Gu (⟨[En i18],[],G,O,⟨⟨_,O,.conv (.same O)⟩,G⟩,O,congrArg (fun r:Int=>(G0 r:AV)) (Option.some.inj h)⟩))))))
  ·
   replace h:=Hv hb h
   refine Gp (hK21 _ _ (G2 (JLh (G0 ((i18+1:Nat):Int)) (Hy (He hk18 hm7) O O O) O (JLh (G0 ((i18+1:Nat):Int)) (G5 O O) O (G8 (e18 _ _ (i18+1) () (app1 hn18 h) (by omega) ⟨(by repeat' constructor),G,rfl⟩))))))
 ·
  have h:=app1 hkx18 (Ho hi18 (H9 hb))
  refine Hk (hK2 _ _ (G7 fun K25 hK25=>G2 (JLh (G0 (-1)) (G9 O O) O (G8 (hK25 _ _ (Gu (⟨[G0 (-1)],[],G,O,⟨⟨_,O,.conv (.same O)⟩,G⟩,O,congrArg (fun r:Int=>(G0 r:AV)) (Option.some.inj h)⟩)))))))

def Yy (s:List Int) (v:Int):Option Bool:=
 bnd (Zw s v) fun r3=>
 some (decide (0≤r3))
theorem H0d (s:List Int) (v:Int) (r:Bool) (h:Yy s v=some r):Pure Tryz.prog 244 [E9 s,U8 v] (·=BL r):=by
 unfold Yy at h
 refine H1 [.tmp 4] Tryz.func244 O O (G7 fun K1 hK1=>G2 (JLh (BL false) (G9 O O) O (G8 (hK1 _ _ (G7 fun K2 hK2=>G2 (JLh (E9 s) (G5 O O) O (JLh (U8 v) (G5 O O) O ?_)))))))
 obtain⟨r3,hr3,h⟩:=Gf h
 refine JLh (G0 r3) (Gq (args:=[E9 s,U8 v]) O (H5b s v r3 hr3) Jbe ⟨O,O,O,O,G⟩) O (JLh (BL (decide (0≤r3))) (G29 O O O) O (JLh (BL (decide (0≤r3))) (G9 O O) O (G8 (hK2 _ _ (Gu (⟨[BL (decide (0≤r3))],[],G,O,⟨⟨_,O,.conv (.same O)⟩,G⟩,O,congrArg (fun r:Bool=>(BL r:AV)) (Option.some.inj h)⟩))))))

def G9a (s:Hb) (x:Slot) (size:Int):Option Bool:=
 bnd (bif (((decide (0≤x.G4))&&(decide (x.G4 < (s.Columns.length:Int))))&&(decide (0≤x.Tier))) then Q3 s.Columns x.G4 some else some default) fun y3=>
 bnd (bif ((((decide (0≤x.G4))&&(decide (x.G4 < (s.Columns.length:Int))))&&(decide (0≤x.Tier)))&&(decide (x.Tier < y3.Tiers))) then G75 size else some default) fun r4=>
 bnd (bif ((((decide (0≤x.G4))&&(decide (x.G4 < (s.Columns.length:Int))))&&(decide (0≤x.Tier)))&&(decide (x.Tier < y3.Tiers))) then Yy r4 x.Half else some default) fun r5=>
 some (((((decide (0≤x.G4))&&(decide (x.G4 < (s.Columns.length:Int))))&&(decide (0≤x.Tier)))&&(decide (x.Tier < y3.Tiers)))&&r5)
theorem J89 (s:Hb) (x:Slot) (size:Int) (r:Bool) (h:G9a s x size=some r):Pure Tryz.prog 153 [.agg (Hb.cs s),.agg [G0 x.G4,G0 x.Tier,U8 x.Half],U8 size] (·=BL r):=by
 unfold G9a at h
 refine H1 [.tmp 6] Tryz.func153 O O ?_
 refine G7 fun K1 hK1=>G2 (JLh (.ptr 1095 0) (Jy (u:=.agg (Hb.cs s)) (cs:=(Hb.cs s)) 1095 O O O O O) O (JLh (.ptr 1096 0) (Jy (u:=.agg [G0 x.G4,G0 x.Tier,U8 x.Half]) (cs:=[G0 x.G4,G0 x.Tier,U8 x.Half]) 1096 O O O O O) O (JLh (BL false) (G9 O O) O (G8 (hK1 _ _ ?_)))))
 refine Gx [(2,U8 size),(3,Ee s),(4,.ptr 1096 0)] [(1096,.box 119 [G0 x.G4,G0 x.Tier,U8 x.Half])] 1095 rfl rfl rfl ⟨⟨_,rfl,.boxEq rfl rfl⟩,G⟩ rfl (by exact⟨.conv (.same rfl),.ptr,.conv (.same rfl),G⟩) ?_
 refine Gx [(2,U8 size),(3,Ee s),(4,.dptr [G0 x.G4,G0 x.Tier,U8 x.Half])] [] 1096 rfl rfl rfl G rfl (by exact⟨.conv (.same rfl),.conv (.same rfl),.ptr,G⟩) (G7 (fun K2 hK2=>?_))
 obtain⟨y3,hy3,h⟩:=Gf h
 obtain⟨r4,hr4,h⟩:=Gf h
 obtain⟨r5,hr5,h⟩:=Gf h
 refine Q6 [] [0,0,0,0,0,0,0,0,0,0,0,0,0,0,0,0,0,0,0,0,0,0,0,0,0,0,0,0,0,0,0,0,0,0,0,0] [0,0,0,0,0,0,0,0,0,0,0,0,0,0,0,0,0,0,0,0,0,0,0,0,0,0,0,0,0,0,0,0,0,0,0,0] [[]] Jk (by kernel_rfl) rfl rfl ?_
 refine Gc (u:=.dptr [G0 x.G4,G0 x.Tier,U8 x.Half]) O O ⟨Gw (Gb J0 O O O) O,G⟩ (Gc (u:=G0 x.G4) O O ⟨Gw (Gh Gd O O O) O,G⟩ (Gc (u:=BL (decide (0≤x.G4))) O O ⟨Gw (G29 O O O) O,G⟩ (Gc (u:=BL (decide (0≤x.G4))) O O ⟨Gw (G5 O O) O,G⟩ (Gc (u:=.opt (decide (0≤x.G4)) (.dptr [G0 x.G4,G0 x.Tier,U8 x.Half])) O O ⟨Ge [] O O O .sct G (fun hc=>Gb J0 O O O) O,G⟩ (Gc (u:=.opt (decide (0≤x.G4)) (G0 x.G4)) O O ⟨Ge [(11,.dptr [G0 x.G4,G0 x.Tier,U8 x.Half])] O O O .sct ⟨.all id,G⟩ (fun hc=>Gh Gd O O O) O,G⟩ (Gc (u:=.opt (decide (0≤x.G4)) (Ee s)) O O ⟨Ge [] O O O .sct G (fun hc=>Gb Hi O O O) O,G⟩ (Gc (u:=.opt (decide (0≤x.G4)) (E3 s.Columns)) O O ⟨Ge [(13,Ee s)] O O O .sct ⟨.all id,G⟩ (fun hc=>Gh Hq O O O) O,G⟩ (Gc (u:=.opt (decide (0≤x.G4)) (En s.Columns.length)) O O ⟨Ge [(14,E3 s.Columns)] O O O .sct ⟨.all id,G⟩ (fun hc=>Qt (f:=G4.av) (xs:=s.Columns) H7 O O) O,G⟩ (Gc (u:=.opt (decide (0≤x.G4)) (BL (decide (x.G4 < (s.Columns.length:Int))))) O O ⟨Ge [(12,G0 x.G4),(15,En s.Columns.length)] O O O .sct ⟨.all id,.all id,G⟩ (fun hc=>J2 O O O) O,G⟩ (Gc (u:=BL ((decide (0≤x.G4))&&(decide (x.G4 < (s.Columns.length:Int))))) O O ⟨Gw (Hx O O O O) O,G⟩ (Gc (u:=BL ((decide (0≤x.G4))&&(decide (x.G4 < (s.Columns.length:Int))))) O O ⟨Gw (G5 O O) O,G⟩ (Gc (u:=.opt ((decide (0≤x.G4))&&(decide (x.G4 < (s.Columns.length:Int)))) (.dptr [G0 x.Tier,U8 x.Half])) O O ⟨Ge [] O O O .sct G (fun hc=>Gb Q2 O O O) O,G⟩ (Gc (u:=.opt ((decide (0≤x.G4))&&(decide (x.G4 < (s.Columns.length:Int)))) (G0 x.Tier)) O O ⟨Ge [(19,.dptr [G0 x.Tier,U8 x.Half])] O O O .sct ⟨.all id,G⟩ (fun hc=>Gh Gd O O O) O,G⟩ ?_)))))))))))))
 refine Gc (u:=.opt ((decide (0≤x.G4))&&(decide (x.G4 < (s.Columns.length:Int)))) (BL (decide (0≤x.Tier)))) O O ⟨Ge [(20,G0 x.Tier)] O O O .sct ⟨.all id,G⟩ (fun hc=>G29 O O O) O,G⟩ (Gc (u:=BL (((decide (0≤x.G4))&&(decide (x.G4 < (s.Columns.length:Int))))&&(decide (0≤x.Tier)))) O O ⟨Gw (Hx O O O O) O,G⟩ (Gc (u:=BL (((decide (0≤x.G4))&&(decide (x.G4 < (s.Columns.length:Int))))&&(decide (0≤x.Tier)))) O O ⟨Gw (G5 O O) O,G⟩ (Gc (u:=.opt (((decide (0≤x.G4))&&(decide (x.G4 < (s.Columns.length:Int))))&&(decide (0≤x.Tier))) (.dptr [G0 x.Tier,U8 x.Half])) O O ⟨Ge [] O O O .sct G (fun hc=>Gb Q2 O O O) O,G⟩ (Gc (u:=.opt (((decide (0≤x.G4))&&(decide (x.G4 < (s.Columns.length:Int))))&&(decide (0≤x.Tier))) (G0 x.Tier)) O O ⟨Ge [(24,.dptr [G0 x.Tier,U8 x.Half])] O O O .sct ⟨.all id,G⟩ (fun hc=>Gh Gd O O O) O,G⟩ (Gc (u:=.opt (((decide (0≤x.G4))&&(decide (x.G4 < (s.Columns.length:Int))))&&(decide (0≤x.Tier))) (Ee s)) O O ⟨Ge [] O O O .sct G (fun hc=>Gb Hi O O O) O,G⟩ (Gc (u:=.opt (((decide (0≤x.G4))&&(decide (x.G4 < (s.Columns.length:Int))))&&(decide (0≤x.Tier))) (E3 s.Columns)) O O ⟨Ge [(26,Ee s)] O O O .sct ⟨.all id,G⟩ (fun hc=>Gh Hq O O O) O,G⟩ (Gc (u:=.opt (((decide (0≤x.G4))&&(decide (x.G4 < (s.Columns.length:Int))))&&(decide (0≤x.Tier))) (.dptr [G0 x.G4,G0 x.Tier,U8 x.Half])) O O ⟨Ge [] O O O .sct G (fun hc=>Gb J0 O O O) O,G⟩ (Gc (u:=.opt (((decide (0≤x.G4))&&(decide (x.G4 < (s.Columns.length:Int))))&&(decide (0≤x.Tier))) (G0 x.G4)) O O ⟨Ge [(28,.dptr [G0 x.G4,G0 x.Tier,U8 x.Half])] O O O .sct ⟨.all id,G⟩ (fun hc=>Gh Gd O O O) O,G⟩ (Gc (u:=.opt (((decide (0≤x.G4))&&(decide (x.G4 < (s.Columns.length:Int))))&&(decide (0≤x.Tier))) (Eh y3)) O O ⟨Ge [(27,E3 s.Columns),(29,G0 x.G4)] O O O .sct ⟨.all id,.all id,G⟩ (fun hc=>(match Jf (Gz hc hy3) with | ⟨_,hm_,hy_⟩=>Gt (f:=G4.av) (xs:=s.Columns) (y:=y3) O O O H7 hy_ hm_)) O,G⟩ (Gc (u:=.opt (((decide (0≤x.G4))&&(decide (x.G4 < (s.Columns.length:Int))))&&(decide (0≤x.Tier))) (.dptr ((G4.cs y3).drop 3))) O O ⟨Ge [(30,Eh y3)] O O O .sct ⟨.all id,G⟩ (fun hc=>Gb Z1 O O O) O,G⟩ (Gc (u:=.opt (((decide (0≤x.G4))&&(decide (x.G4 < (s.Columns.length:Int))))&&(decide (0≤x.Tier))) (G0 y3.Tiers)) O O ⟨Ge [(31,.dptr ((G4.cs y3).drop 3))] O O O .sct ⟨.all id,G⟩ (fun hc=>Gh Gd O O O) O,G⟩ (Gc (u:=.opt (((decide (0≤x.G4))&&(decide (x.G4 < (s.Columns.length:Int))))&&(decide (0≤x.Tier))) (BL (decide (x.Tier < y3.Tiers)))) O O ⟨Ge [(25,G0 x.Tier),(32,G0 y3.Tiers)] O O O .sct ⟨.all id,.all id,G⟩ (fun hc=>J2 O O O) O,G⟩ (Gc (u:=BL ((((decide (0≤x.G4))&&(decide (x.G4 < (s.Columns.length:Int))))&&(decide (0≤x.Tier)))&&(decide (x.Tier < y3.Tiers)))) O O ⟨Gw (Hx O O O O) O,G⟩ ?_)))))))))))))
 refine Gc (u:=BL ((((decide (0≤x.G4))&&(decide (x.G4 < (s.Columns.length:Int))))&&(decide (0≤x.Tier)))&&(decide (x.Tier < y3.Tiers)))) O O ⟨Gw (G5 O O) O,G⟩ (Gc (u:=.opt ((((decide (0≤x.G4))&&(decide (x.G4 < (s.Columns.length:Int))))&&(decide (0≤x.Tier)))&&(decide (x.Tier < y3.Tiers))) (U8 size)) O O ⟨Ge [] O O O .sct G (fun hc=>G5 O O) O,G⟩ (Gc (u:=.opt ((((decide (0≤x.G4))&&(decide (x.G4 < (s.Columns.length:Int))))&&(decide (0≤x.Tier)))&&(decide (x.Tier < y3.Tiers))) (E9 r4)) O O ⟨Ge [(36,U8 size)] O O O .sct ⟨.all id,G⟩ (fun hc=>Gq (args:=[U8 size]) O (J46 size r4 (Gz hc hr4)) Jc3 ⟨O,O,G⟩) O,G⟩ (Gc (u:=.opt ((((decide (0≤x.G4))&&(decide (x.G4 < (s.Columns.length:Int))))&&(decide (0≤x.Tier)))&&(decide (x.Tier < y3.Tiers))) (.dptr [U8 x.Half])) O O ⟨Ge [] O O O .sct G (fun hc=>Gb Jd O O O) O,G⟩ (Gc (u:=.opt ((((decide (0≤x.G4))&&(decide (x.G4 < (s.Columns.length:Int))))&&(decide (0≤x.Tier)))&&(decide (x.Tier < y3.Tiers))) (U8 x.Half)) O O ⟨Ge [(38,.dptr [U8 x.Half])] O O O .sct ⟨.all id,G⟩ (fun hc=>Gh Jn O O O) O,G⟩ (Gc (u:=.opt ((((decide (0≤x.G4))&&(decide (x.G4 < (s.Columns.length:Int))))&&(decide (0≤x.Tier)))&&(decide (x.Tier < y3.Tiers))) (BL r5)) O O ⟨Ge [(37,E9 r4),(39,U8 x.Half)] O O O .sct ⟨.all id,.all id,G⟩ (fun hc=>Gq (args:=[E9 r4,U8 x.Half]) O (H0d r4 x.Half r5 (Gz hc hr5)) Jc4 ⟨O,O,O,O,G⟩) O,G⟩ (Gc (u:=BL (((((decide (0≤x.G4))&&(decide (x.G4 < (s.Columns.length:Int))))&&(decide (0≤x.Tier)))&&(decide (x.Tier < y3.Tiers)))&&r5)) O O ⟨Gw (Hx O O O O) O,G⟩ (Gc (u:=BL (((((decide (0≤x.G4))&&(decide (x.G4 < (s.Columns.length:Int))))&&(decide (0≤x.Tier)))&&(decide (x.Tier < y3.Tiers)))&&r5)) O O ⟨Gw (G9 O O) O,G⟩ (Yz ?_))))))))
 refine hK2 _ _ (Gu (⟨[BL (((((decide (0≤x.G4))&&(decide (x.G4 < (s.Columns.length:Int))))&&(decide (0≤x.Tier)))&&(decide (x.Tier < y3.Tiers)))&&r5)],[],G,O,⟨⟨_,O,.conv (.same O)⟩,G⟩,O,congrArg (fun r:Bool=>(BL r:AV)) (Option.some.inj h)⟩))

def Za (s:List Slot) (v:Slot):Option Int:=
 each (fun y18 i18 (s18:Unit) nx18=>
  bif decide (v=y18) then
  (some (i18:Int))
  else
  (nx18 ()))
 (fun(s18:Unit)=>
  some (-1)) s 0 ()
theorem H29 (s:List Slot) (v:Slot) (r:Int) (h:Za s v=some r):Pure Tryz.prog 289 [E8 s,.agg [G0 v.G4,G0 v.Tier,U8 v.Half]] (·=G0 r):=by
 unfold Za at h
 refine H1 [.tmp 4] Tryz.func289 O O (G7 fun K1 hK1=>G2 (JLh (.ptr 1148 0) (Jy (u:=.agg [G0 v.G4,G0 v.Tier,U8 v.Half]) (cs:=[G0 v.G4,G0 v.Tier,U8 v.Half]) 1148 O O O O O) O (JLh (G0 0) (G9 O O) O (G8 (hK1 _ _ (Gx [(0,E8 s),(3,.dptr [G0 v.G4,G0 v.Tier,U8 v.Half])] [] 1148 rfl rfl rfl G rfl (by exact⟨.conv (.same rfl),.ptr,G⟩) (G7 (fun K2 hK2=>G7 fun K3 hK3=>G2 (JLh (E8 s) (G5 O O) O (H3 (f:=Slot.av) (xs:=s) Rx O O (fun hm7=>?_) O O O))))))))))
 refine JLh (G0 0) (G5 O O) O (G8 (hK3 _ _ (Gk ?_)))
 obtain⟨b18,kx18,hb18,hkx18,h⟩:=Hw h
 refine Hc (fun i18 (s18:Unit)=>each b18 kx18 (List.drop i18 s) i18 s18=some r) (fun i18 s18=>[(0,E8 s),(3,.dptr [G0 v.G4,G0 v.Tier,U8 v.Half]),(7,En s.length),(8,En i18)]) (fun i18 s18=>[]) (fun i18=>s.length - i18) 0 () h ⟨(by repeat' constructor),G,rfl⟩ ?_
 clear h
 intro i18 s18 hi18 K18 e18
 refine G7 fun K19 hK19=>G2 (JLh (BL (decide ((i18:Int) < (s.length:Int)))) (J2 O O O) O (G8 (hK19 _ _ (G7 (fun K20 hK20=>Gn O (fun hb=>?_) (fun hb=>?_))))))
 ·
  have hk18:=Jc hb
  obtain⟨y18,nx18,hy18,hn18,h⟩:=Hn hi18 hk18
  replace h:=Yb hb18 h
  refine Gp (hK20 _ _ (G7 (fun K21 hK21=>Gk (G7 fun K22 hK22=>G2 (JLh (En i18) (G5 O O) O (JLh (En i18) (G9 O O) O (G8 (hK22 _ _ (G7 (fun K23 hK23=>Q6 [] [0,0,0,0,0,0] [0,0,0,0,0,0] [[]] Jk (by kernel_rfl) rfl rfl ?_))))))))))
  refine Gc (u:=.agg [G0 v.G4,G0 v.Tier,U8 v.Half]) O O ⟨Gw (Gj Jh O O O) O,G⟩ (Gc (u:=E8 s) O O ⟨Gw (G5 O O) O,G⟩ (Gc (u:=En i18) O O ⟨Gw (G5 O O) O,G⟩ (Gc (u:=Eg y18) O O ⟨Gw (Gt (f:=Slot.av) (xs:=s) (y:=y18) O O O Rx hy18 O) O,G⟩ (Gc (u:=.agg (Slot.cs y18)) O O ⟨Gw (Gj Jh O O O) O,G⟩ (Gc (u:=BL (decide (v=y18))) O O ⟨Gw (Ga0 (vs:=[.int .i64 v.G4,.int .i64 v.Tier,.int .u8 v.Half]) (us:=[.int .i64 y18.G4,.int .i64 y18.Tier,.int .u8 y18.Half]) 4 O (tq_119 v y18) Gcf H48 O O O) O,G⟩ (Yz (hK23 _ _ (Gn O (fun hb=>?_) (fun hb=>?_)))))))))
  ·
   replace h:=Gz hb h
   refine G7 fun K24 hK24=>G2 (JLh (En i18) (G5 O O) O (JLh (En i18) (G9 O O) O (G8 (hK24 _ _ (Gu (⟨[En i18],[],G,O,⟨⟨_,O,.conv (.same O)⟩,G⟩,O,congrArg (fun r:Int=>(G0 r:AV)) (Option.some.inj h)⟩))))))
  ·
   replace h:=Hv hb h
   refine Gp (hK21 _ _ (G2 (JLh (G0 ((i18+1:Nat):Int)) (Hy (He hk18 hm7) O O O) O (JLh (G0 ((i18+1:Nat):Int)) (G5 O O) O (G8 (e18 _ _ (i18+1) () (app1 hn18 h) (by omega) ⟨(by repeat' constructor),G,rfl⟩))))))
 ·
  have h:=app1 hkx18 (Ho hi18 (H9 hb))
  refine Hk (hK2 _ _ (G7 fun K25 hK25=>G2 (JLh (G0 (-1)) (G9 O O) O (G8 (hK25 _ _ (Gu (⟨[G0 (-1)],[],G,O,⟨⟨_,O,.conv (.same O)⟩,G⟩,O,congrArg (fun r:Int=>(G0 r:AV)) (Option.some.inj h)⟩)))))))

def Ya (s:List Slot) (v:Slot):Option Bool:=
 bnd (Za s v) fun r3=>
 some (decide (0≤r3))
theorem Gda (s:List Slot) (v:Slot) (r:Bool) (h:Ya s v=some r):Pure Tryz.prog 247 [E8 s,.agg [G0 v.G4,G0 v.Tier,U8 v.Half]] (·=BL r):=by
 unfold Ya at h
 refine H1 [.tmp 4] Tryz.func247 O O (G7 fun K1 hK1=>G2 (JLh (.ptr 1137 0) (Jy (u:=.agg [G0 v.G4,G0 v.Tier,U8 v.Half]) (cs:=[G0 v.G4,G0 v.Tier,U8 v.Half]) 1137 O O O O O) O (JLh (BL false) (G9 O O) O (G8 (hK1 _ _ (Gx [(0,E8 s),(3,.dptr [G0 v.G4,G0 v.Tier,U8 v.Half])] [] 1137 rfl rfl rfl G rfl (by exact⟨.conv (.same rfl),.ptr,G⟩) (G7 fun K2 hK2=>G2 (JLh (E8 s) (G5 O O) O (JLh (.agg [G0 v.G4,G0 v.Tier,U8 v.Half]) (Gj Jh O O O) O ?_)))))))))
 obtain⟨r3,hr3,h⟩:=Gf h
 refine JLh (G0 r3) (Gq (args:=[E8 s,.agg [G0 v.G4,G0 v.Tier,U8 v.Half]]) O (H29 s v r3 hr3) Jbd ⟨O,O,O,O,G⟩) O (JLh (BL (decide (0≤r3))) (G29 O O O) O (JLh (BL (decide (0≤r3))) (G9 O O) O (G8 (hK2 _ _ (Gu (⟨[BL (decide (0≤r3))],[],G,O,⟨⟨_,O,.conv (.same O)⟩,G⟩,O,congrArg (fun r:Bool=>(BL r:AV)) (Option.some.inj h)⟩))))))

def G2d (half:Int) (p1:List Slot) (p2:Slot):Option Bool:=
 G32 (p2.Tier - 1) fun v3=>
 bnd (Ya p1 (Slot.mk p2.G4 v3 half)) fun r4=>
 some r4
theorem Gc9 (half:Int) (p1:List Slot) (p2:Slot) (r:Bool) (h:G2d half p1 p2=some r):Pure Tryz.prog 246 [U8 half,.dptr [E8 p1],.dptr [G0 p2.G4,G0 p2.Tier,U8 p2.Half]] (·=BL r):=by
 unfold G2d at h
 refine H1 [.tmp 4] Tryz.func246 O O (G7 fun K1 hK1=>G2 (JLh (BL false) (G9 O O) O (G8 (hK1 _ _ (G7 fun K2 hK2=>G2 (JLh (E8 p1) (Gh J9c O O O) O (JLh (.dptr [G0 p2.G4,G0 p2.Tier,U8 p2.Half]) (Gb J0 O O O) O (JLh (G0 p2.G4) (Gh Gd O O O) O (JLh (.dptr [G0 p2.Tier,U8 p2.Half]) (Gb Q2 O O O) O (JLh (G0 p2.Tier) (Gh Gd O O O) O ?_))))))))))
 obtain⟨v3,hv3,h⟩:=Qw h
 refine JLh (G0 v3) (Gcb hv3 O O O) O (JLh (U8 half) (G5 O O) O (JLh (.agg [G0 p2.G4,G0 v3,U8 half]) (Jv (cs:=[G0 p2.G4,G0 v3,U8 half]) [(0,1),(1,1),(2,1)] [G0 0,G0 0,U8 0] [.int .i64 0,.int .i64 0,.int .u8 0] H21 H11 ⟨.inl O,.inl O,.inl O,G⟩ O O) O ?_))
 obtain⟨r4,hr4,h⟩:=Gf h
 refine JLh (BL r4) (Gq (args:=[E8 p1,.agg [G0 p2.G4,G0 v3,U8 half]]) O (Gda p1 (Slot.mk p2.G4 v3 half) r4 hr4) Jc2 ⟨O,O,O,O,G⟩) O (JLh (BL r4) (G9 O O) O (G8 (hK2 _ _ (Gu (⟨[BL r4],[],G,O,⟨⟨_,O,.conv (.same O)⟩,G⟩,O,congrArg (fun r:Bool=>(BL r:AV)) (Option.some.inj h)⟩)))))

def Gbc (x:Slot) (l:List Slot):Option Bool:=
 bif decide (x.Tier≤0) then
 (some true)
 else
 (bnd (G2d x.Half l x) fun r7=>
  bnd (bif ((!r7)&&(decide (x.Half=0))) then G2d 1 l x else some default) fun r8=>
  bnd (bif ((!r7)&&((decide (x.Half=0))&&r8)) then G2d 2 l x else some default) fun r9=>
  some (r7||(((decide (x.Half=0))&&r8)&&r9)))
theorem M_slot_Held_w (x:Slot) (l:List Slot) (r:Bool) (h:Gbc x l=some r):Pure Tryz.prog 154 [.agg [G0 x.G4,G0 x.Tier,U8 x.Half],E8 l] (·=BL r):=by
 unfold Gbc at h
 refine H1 [.tmp 4] Tryz.func154 O O (G7 fun K1 hK1=>G2 (JLh (.ptr 1097 0) (Jy (u:=.agg [G0 x.G4,G0 x.Tier,U8 x.Half]) (cs:=[G0 x.G4,G0 x.Tier,U8 x.Half]) 1097 O O O O O) O (JLh (.ptr 1098 0) (Jy (u:=E8 l) (cs:=[E8 l]) 1098 O O O O O) O (JLh (BL false) (G9 O O) O (G8 (hK1 _ _ (Gx [(2,.dptr [G0 x.G4,G0 x.Tier,U8 x.Half]),(3,.ptr 1098 0)] [(1098,.box 243 [E8 l])] 1097 rfl rfl rfl ⟨⟨_,rfl,.boxEq rfl rfl⟩,G⟩ rfl (by exact⟨.ptr,.conv (.same rfl),G⟩) (Gx [(2,.dptr [G0 x.G4,G0 x.Tier,U8 x.Half]),(3,.dptr [E8 l])] [] 1098 rfl rfl rfl G rfl (by exact⟨.conv (.same rfl),.ptr,G⟩) (G7 (fun K2 hK2=>?_))))))))))
 refine G7 fun K3 hK3=>G2 (JLh (.dptr [G0 x.Tier,U8 x.Half]) (Gb Q2 O O O) O (JLh (G0 x.Tier) (Gh Gd O O O) O (JLh (BL (decide (x.Tier≤0))) (H98 O O O) O (G8 (hK3 _ _ (Gn O (fun hb=>?_) (fun hb=>?_)))))))
 ·
  replace h:=Gz hb h
  refine G7 fun K4 hK4=>G2 (JLh (BL true) (G9 O O) O (G8 (hK4 _ _ (Gu (⟨[BL true],[],G,O,⟨⟨_,O,.conv (.same O)⟩,G⟩,O,congrArg (fun r:Bool=>(BL r:AV)) (Option.some.inj h)⟩)))))
 ·
  replace h:=Hv hb h
  refine Gp (hK2 _ _ (G7 fun K5 hK5=>G2 (JLh (.fn 246 [.dptr [E8 l],.dptr [G0 x.G4,G0 x.Tier,U8 x.Half]]) (G30 (cs:=[.dptr [E8 l],.dptr [G0 x.G4,G0 x.Tier,U8 x.Half]]) O O) O (JLh (.fn 246 [.dptr [E8 l],.dptr [G0 x.G4,G0 x.Tier,U8 x.Half]]) (G9 O O) O (G8 (hK5 _ _ (G7 fun K6 hK6=>G2 (JLh (.fn 246 [.dptr [E8 l],.dptr [G0 x.G4,G0 x.Tier,U8 x.Half]]) (G5 O O) O (JLh (.dptr [U8 x.Half]) (Gb Jd O O O) O (JLh (U8 x.Half) (Gh Jn O O O) O ?_))))))))))
  obtain⟨r7,hr7,h⟩:=Gf h
  refine JLh (BL r7) (G47 (args:=[U8 x.Half]) (caps:=[.dptr [E8 l],.dptr [G0 x.G4,G0 x.Tier,U8 x.Half]]) O O (Gc9 x.Half l x r7 hr7) H76 ⟨O,O,G⟩ O) O (JLh (BL r7) (G5 O O) O (Ga (u:=.dptr [U8 x.Half]) [] O O O .scf G (fun hc=>Gb Jd O O O) ?_))
  refine Ga (u:=U8 x.Half) [(15,.dptr [U8 x.Half])] O O O .scf ⟨.all id,G⟩ (fun hc=>Gh Jn O O O) ?_
  refine Ga (u:=BL (decide (x.Half=0))) [(16,U8 x.Half)] O O O .scf ⟨.all id,G⟩ (fun hc=>Jx O O O) ?_
  refine Ga (u:=BL (decide (x.Half=0))) [(17,BL (decide (x.Half=0)))] O O O .scf ⟨.all id,G⟩ (fun hc=>G5 O O) ?_
  refine Ga (u:=.fn 246 [.dptr [E8 l],.dptr [G0 x.G4,G0 x.Tier,U8 x.Half]]) [] O O O .optt G (fun hc=>G5 O O) ?_
  obtain⟨r8,hr8,h⟩:=Gf h
  refine Ga (u:=BL r8) [(19,.fn 246 [.dptr [E8 l],.dptr [G0 x.G4,G0 x.Tier,U8 x.Half]])] O O O .optt ⟨.all id,G⟩ (fun hc=>G47 (args:=[U8 1]) (caps:=[.dptr [E8 l],.dptr [G0 x.G4,G0 x.Tier,U8 x.Half]]) O O (Gc9 1 l x r8 (Gz hc hr8)) H76 ⟨O,O,G⟩ O) ?_
  refine Ga (u:=BL ((decide (x.Half=0))&&r8)) [(18,BL (decide (x.Half=0))),(20,_)] O O O .scf ⟨.all id,.part,G⟩ (fun hc=>Hx O O O O) ?_
  refine Ga (u:=BL ((decide (x.Half=0))&&r8)) [(21,BL ((decide (x.Half=0))&&r8))] O O O .scf ⟨.all id,G⟩ (fun hc=>G5 O O) ?_
  refine Ga (u:=.fn 246 [.dptr [E8 l],.dptr [G0 x.G4,G0 x.Tier,U8 x.Half]]) [] O O O .optt G (fun hc=>G5 O O) ?_
  obtain⟨r9,hr9,h⟩:=Gf h
  refine Ga (u:=BL r9) [(23,.fn 246 [.dptr [E8 l],.dptr [G0 x.G4,G0 x.Tier,U8 x.Half]])] O O O .optt ⟨.all id,G⟩ (fun hc=>G47 (args:=[U8 2]) (caps:=[.dptr [E8 l],.dptr [G0 x.G4,G0 x.Tier,U8 x.Half]]) O O (Gc9 2 l x r9 (Gz hc hr9)) H76 ⟨O,O,G⟩ O) ?_
  refine Ga (u:=BL (((decide (x.Half=0))&&r8)&&r9)) [(22,BL ((decide (x.Half=0))&&r8)),(24,_)] O O O .scf ⟨.all id,.part,G⟩ (fun hc=>Hx O O O O) ?_
  refine JLh (BL (r7||(((decide (x.Half=0))&&r8)&&r9))) (Rn O O O O) O (JLh (BL (r7||(((decide (x.Half=0))&&r8)&&r9))) (G9 O O) O (G8 (hK6 _ _ (Gu (⟨[BL (r7||(((decide (x.Half=0))&&r8)&&r9))],[],G,O,⟨⟨_,O,.conv (.same O)⟩,G⟩,O,congrArg (fun r:Bool=>(BL r:AV)) (Option.some.inj h)⟩)))))

def G4e (a:Int) (b:Int):Option Bool:=
 some (((decide (a=b))||(decide (a=0)))||(decide (b=0)))
theorem H64 (a:Int) (b:Int) (r:Bool) (h:G4e a b=some r):Pure Tryz.prog 248 [U8 a,U8 b] (·=BL r):=by
 unfold G4e at h
 refine H1 [.tmp 4] Tryz.func248 O O (G7 fun K1 hK1=>G2 (JLh (BL false) (G9 O O) O (G8 (hK1 _ _ (G7 fun K2 hK2=>G2 (JLh (U8 a) (G5 O O) O (JLh (U8 b) (G5 O O) O (JLh (BL (decide (a=b))) (Jx O O O) O (JLh (BL (decide (a=b))) (G5 O O) O (Ga (u:=U8 a) [] O O O .scf G (fun hc=>G5 O O) ?_))))))))))
 refine Ga (u:=BL (decide (a=0))) [(9,U8 a)] O O O .scf ⟨.all id,G⟩ (fun hc=>Jx O O O) ?_
 refine JLh (BL ((decide (a=b))||(decide (a=0)))) (Rn O O O O) O (JLh (BL ((decide (a=b))||(decide (a=0)))) (G5 O O) O (Ga (u:=U8 b) [] O O O .scf G (fun hc=>G5 O O) ?_))
 refine Ga (u:=BL (decide (b=0))) [(13,U8 b)] O O O .scf ⟨.all id,G⟩ (fun hc=>Jx O O O) ?_
 refine JLh (BL (((decide (a=b))||(decide (a=0)))||(decide (b=0)))) (Rn O O O O) O (JLh (BL (((decide (a=b))||(decide (a=0)))||(decide (b=0)))) (G9 O O) O (G8 (hK2 _ _ (Gu (⟨[BL (((decide (a=b))||(decide (a=0)))||(decide (b=0)))],[],G,O,⟨⟨_,O,.conv (.same O)⟩,G⟩,O,congrArg (fun r:Bool=>(BL r:AV)) (Option.some.inj h)⟩)))))

def Gbb (a:Slot) (b:Slot):Option Bool:=
 bnd (bif ((decide (a.G4=b.G4))&&(decide (a.Tier=b.Tier))) then G4e a.Half b.Half else some default) fun r3=>
 some (((decide (a.G4=b.G4))&&(decide (a.Tier=b.Tier)))&&r3)
theorem M_slot_Meet_w (a:Slot) (b:Slot) (r:Bool) (h:Gbb a b=some r):Pure Tryz.prog 155 [.agg [G0 a.G4,G0 a.Tier,U8 a.Half],.agg [G0 b.G4,G0 b.Tier,U8 b.Half]] (·=BL r):=by
 unfold Gbb at h
 refine H1 [.tmp 4] Tryz.func155 O O (G7 fun K1 hK1=>G2 (JLh (.ptr 1099 0) (Jy (u:=.agg [G0 a.G4,G0 a.Tier,U8 a.Half]) (cs:=[G0 a.G4,G0 a.Tier,U8 a.Half]) 1099 O O O O O) O (JLh (.ptr 1100 0) (Jy (u:=.agg [G0 b.G4,G0 b.Tier,U8 b.Half]) (cs:=[G0 b.G4,G0 b.Tier,U8 b.Half]) 1100 O O O O O) O (JLh (BL false) (G9 O O) O (G8 (hK1 _ _ (Gx [(2,.dptr [G0 a.G4,G0 a.Tier,U8 a.Half]),(3,.ptr 1100 0)] [(1100,.box 119 [G0 b.G4,G0 b.Tier,U8 b.Half])] 1099 rfl rfl rfl ⟨⟨_,rfl,.boxEq rfl rfl⟩,G⟩ rfl (by exact⟨.ptr,.conv (.same rfl),G⟩) (Gx [(2,.dptr [G0 a.G4,G0 a.Tier,U8 a.Half]),(3,.dptr [G0 b.G4,G0 b.Tier,U8 b.Half])] [] 1100 rfl rfl rfl G rfl (by exact⟨.conv (.same rfl),.ptr,G⟩) ?_))))))))
 refine G7 fun K2 hK2=>G2 (JLh (.dptr [G0 a.G4,G0 a.Tier,U8 a.Half]) (Gb J0 O O O) O (JLh (G0 a.G4) (Gh Gd O O O) O (JLh (.dptr [G0 b.G4,G0 b.Tier,U8 b.Half]) (Gb J0 O O O) O (JLh (G0 b.G4) (Gh Gd O O O) O (JLh (BL (decide (a.G4=b.G4))) (Jx O O O) O (JLh (BL (decide (a.G4=b.G4))) (G5 O O) O (Ga (u:=.dptr [G0 a.Tier,U8 a.Half]) [] O O O .sct G (fun hc=>Gb Q2 O O O) ?_)))))))
 refine Ga (u:=G0 a.Tier) [(11,.dptr [G0 a.Tier,U8 a.Half])] O O O .sct ⟨.all id,G⟩ (fun hc=>Gh Gd O O O) ?_
 refine Ga (u:=.dptr [G0 b.Tier,U8 b.Half]) [] O O O .sct G (fun hc=>Gb Q2 O O O) ?_
 refine Ga (u:=G0 b.Tier) [(13,.dptr [G0 b.Tier,U8 b.Half])] O O O .sct ⟨.all id,G⟩ (fun hc=>Gh Gd O O O) ?_
 refine Ga (u:=BL (decide (a.Tier=b.Tier))) [(12,G0 a.Tier),(14,G0 b.Tier)] O O O .sct ⟨.all id,.all id,G⟩ (fun hc=>Jx O O O) ?_
 refine JLh (BL ((decide (a.G4=b.G4))&&(decide (a.Tier=b.Tier)))) (Hx O O O O) O (JLh (BL ((decide (a.G4=b.G4))&&(decide (a.Tier=b.Tier)))) (G5 O O) O (Ga (u:=.dptr [U8 a.Half]) [] O O O .sct G (fun hc=>Gb Jd O O O) ?_))
 refine Ga (u:=U8 a.Half) [(18,.dptr [U8 a.Half])] O O O .sct ⟨.all id,G⟩ (fun hc=>Gh Jn O O O) ?_
 refine Ga (u:=.dptr [U8 b.Half]) [] O O O .sct G (fun hc=>Gb Jd O O O) ?_
 refine Ga (u:=U8 b.Half) [(20,.dptr [U8 b.Half])] O O O .sct ⟨.all id,G⟩ (fun hc=>Gh Jn O O O) ?_
 obtain⟨r3,hr3,h⟩:=Gf h
 refine Ga (u:=BL r3) [(19,U8 a.Half),(21,U8 b.Half)] O O O .sct ⟨.all id,.all id,G⟩ (fun hc=>Gq (args:=[U8 a.Half,U8 b.Half]) O (H64 a.Half b.Half r3 (Gz hc hr3)) J1c ⟨O,O,O,O,G⟩) ?_
 refine JLh (BL (((decide (a.G4=b.G4))&&(decide (a.Tier=b.Tier)))&&r3)) (Hx O O O O) O (JLh (BL (((decide (a.G4=b.G4))&&(decide (a.Tier=b.Tier)))&&r3)) (G9 O O) O (G8 (hK2 _ _ (Gu (⟨[BL (((decide (a.G4=b.G4))&&(decide (a.Tier=b.Tier)))&&r3)],[],G,O,⟨⟨_,O,.conv (.same O)⟩,G⟩,O,congrArg (fun r:Bool=>(BL r:AV)) (Option.some.inj h)⟩)))))

def Gb8 (b:Gv):Option Int:=
 bif b.High then
 (some 2896)
 else
 (some 2591)
theorem M_stow_tall_w (b:Gv) (r:Int) (h:Gb8 b=some r):Pure Tryz.prog 290 [.agg (Gv.cs b)] (·=G0 r):=by
 unfold Gb8 at h
 refine H1 [.tmp 2] Tryz.func290 O O (G7 fun K1 hK1=>G2 (JLh (.ptr 1149 0) (Jy (u:=.agg (Gv.cs b)) (cs:=(Gv.cs b)) 1149 O O O O O) O (JLh (G0 0) (G9 O O) O (G8 (hK1 _ _ (Gx [(1,Ei b)] [] 1149 rfl rfl rfl G rfl (by exact⟨.ptr,G⟩) (G7 (fun K2 hK2=>G7 fun K3 hK3=>G2 (JLh (.dptr ((Gv.cs b).drop 3)) (Gb Ge3 O O O) O (JLh (BL b.High) (Gh Rq O O O) O (G8 (hK3 _ _ (Gn O (fun hb=>?_) (fun hb=>?_))))))))))))))
 ·
  replace h:=Gz hb h
  refine G7 fun K4 hK4=>G2 (JLh (G0 2896) (G9 O O) O (G8 (hK4 _ _ (Gu (⟨[G0 2896],[],G,O,⟨⟨_,O,.conv (.same O)⟩,G⟩,O,congrArg (fun r:Int=>(G0 r:AV)) (Option.some.inj h)⟩)))))
 ·
  replace h:=Hv hb h
  refine Gp (hK2 _ _ (G7 fun K5 hK5=>G2 (JLh (G0 2591) (G9 O O) O (G8 (hK5 _ _ (Gu (⟨[G0 2591],[],G,O,⟨⟨_,O,.conv (.same O)⟩,G⟩,O,congrArg (fun r:Int=>(G0 r:AV)) (Option.some.inj h)⟩)))))))

def G4d (boxes:List Gv) (l:List G6) (column:Int) (half:Int):Option Int:=
 each (fun y27 i27 (s27:Int) nx27=>
  jp (fun kj30=>
   bif ((decide (y27.Slot.G4=column))&&((decide (y27.Slot.Half=half))||(decide (y27.Slot.Half=0)))) then
   (bnd (G88 boxes y27.Gv) fun r34=>
    bif r34.2 then
    (bnd (Gb8 r34.1) fun r36=>
     G32 (s27+r36) fun v37=>
     kj30 v37)
    else
    (kj30 s27))
   else
   (kj30 s27)) fun(j30:Int)=>
  nx27 j30)
 (fun(s27:Int)=>
  some s27) l 0 0
theorem H63 (boxes:List Gv) (l:List G6) (column:Int) (half:Int) (r:Int) (h:G4d boxes l column half=some r):Pure Tryz.prog 249 [E2 boxes,E0 l,G0 column,U8 half] (·=G0 r):=by
 unfold G4d at h
 refine H1 [.tmp 8] Tryz.func249 O O (G7 fun K1 hK1=>G2 (JLh (G0 0) (G9 O O) O (G8 (hK1 _ _ (G7 fun K2 hK2=>G2 (JLh (G0 0) (G9 O O) O (G8 (hK2 _ _ (G7 (fun K3 hK3=>G7 fun K4 hK4=>G2 (JLh (E0 l) (G5 O O) O (H3 (f:=G6.av) (xs:=l) H2 O O (fun hm15=>?_) O O O))))))))))))
 refine JLh (G0 0) (G5 O O) O (G8 (hK4 _ _ (Gk ?_)))
 obtain⟨b27,kx27,hb27,hkx27,h⟩:=Hw h
 refine Hc (fun i27 (s27:Int)=>each b27 kx27 (List.drop i27 l) i27 s27=some r) (fun i27 s27=>[(0,E2 boxes),(2,G0 column),(3,U8 half),(9,G0 s27),(14,E0 l),(15,En l.length),(16,En i27)]) (fun i27 s27=>[]) (fun i27=>l.length - i27) 0 0 h ⟨(by repeat' constructor),G,rfl⟩ ?_
 clear h
 intro i27 s27 hi27 K27 e27
 refine G7 fun K28 hK28=>G2 (JLh (BL (decide ((i27:Int) < (l.length:Int)))) (J2 O O O) O (G8 (hK28 _ _ (G7 (fun K29 hK29=>Gn O (fun hb=>?_) (fun hb=>?_))))))
 ·
  have hk27:=Jc hb
  obtain⟨y27,nx27,hy27,hn27,h⟩:=Hn hi27 hk27
  replace h:=Yb hb27 h
  refine Gp (hK29 _ _ ?_)
  obtain⟨kj30,hkj30,h⟩:=G69 h
  refine G33 (fun j30:Int=>kj30 j30=some r) (fun j30=>[(0,E2 boxes),(2,G0 column),(3,U8 half),(9,G0 j30),(14,E0 l),(15,En l.length),(16,En i27)]) (fun j30=>[]) (fun Kj30 ej30=>?_) ?_
  ·
   refine Gk (G7 fun K31 hK31=>G2 (JLh (Ef y27) (Gt (f:=G6.av) (xs:=l) (y:=y27) O O O H2 hy27 O) O (JLh (.agg (G6.cs y27)) (Gj Yo O O O) O (JLh (.ptr 1138 0) (Jb 1138 4 R9 O O) O (J4 (u:=.junk) (Ht (u:=.agg (G6.cs y27)) (ds:=[G0 y27.Gv,G0 y27.Slot.G4,G0 y27.Slot.Tier,U8 y27.Slot.Half]) G0c O O O O O O O O) (G8 (hK31 _ _ (Gx [(0,E2 boxes),(2,G0 column),(3,U8 half),(9,G0 s27),(11,Ef y27),(14,E0 l),(15,En l.length),(16,En i27)] [] 1138 rfl rfl rfl G rfl (by repeat' (first | exact .ptr | constructor)) ?_))))))))
   refine G7 fun K32 hK32=>G2 (JLh (Eg y27.Slot) (Gb Hz O O O) O (JLh (Eg y27.Slot) (Gb J0 O O O) O (JLh (G0 y27.Slot.G4) (Gh Gd O O O) O (JLh (G0 column) (G5 O O) O (JLh (BL (decide (y27.Slot.G4=column))) (Jx O O O) O (JLh (BL (decide (y27.Slot.G4=column))) (G5 O O) O (Ga (u:=Eg y27.Slot) [] O O O .sct G (fun hc=>Gb Hz O O O) ?_)))))))
   refine Ga (u:=.dptr [U8 y27.Slot.Half]) [(26,Eg y27.Slot)] O O O .sct ⟨.all id,G⟩ (fun hc=>Gb Jd O O O) ?_
   refine Ga (u:=U8 y27.Slot.Half) [(27,.dptr [U8 y27.Slot.Half])] O O O .sct ⟨.all id,G⟩ (fun hc=>Gh Jn O O O) ?_
   refine Ga (u:=U8 half) [] O O O .sct G (fun hc=>G5 O O) ?_
   refine Ga (u:=BL (decide (y27.Slot.Half=half))) [(28,U8 y27.Slot.Half),(29,U8 half)] O O O .sct ⟨.all id,.all id,G⟩ (fun hc=>Jx O O O) ?_
   refine Ga (u:=BL (decide (y27.Slot.Half=half))) [(30,BL (decide (y27.Slot.Half=half)))] O O O .sct ⟨.all id,G⟩ (fun hc=>G5 O O) ?_
   refine Ga (u:=Eg y27.Slot) [] O O O .optf G (fun hc=>Gb Hz O O O) ?_
   refine Ga (u:=.dptr [U8 y27.Slot.Half]) [(32,Eg y27.Slot)] O O O .optf ⟨.all id,G⟩ (fun hc=>Gb Jd O O O) ?_
   refine Ga (u:=U8 y27.Slot.Half) [(33,.dptr [U8 y27.Slot.Half])] O O O .optf ⟨.all id,G⟩ (fun hc=>Gh Jn O O O) ?_
   refine Ga (u:=BL (decide (y27.Slot.Half=0))) [(34,U8 y27.Slot.Half)] O O O .optf ⟨.all id,G⟩ (fun hc=>Jx O O O) ?_
   refine Ga (u:=BL ((decide (y27.Slot.Half=half))||(decide (y27.Slot.Half=0)))) [(31,BL (decide (y27.Slot.Half=half))),(35,_)] O O O .sct ⟨.all id,.part,G⟩ (fun hc=>Rn O O O O) ?_
   refine JLh (BL ((decide (y27.Slot.G4=column))&&((decide (y27.Slot.Half=half))||(decide (y27.Slot.Half=0))))) (Hx O O O O) O (G8 (hK32 _ _ (Gn O (fun hb=>?_) (fun hb=>?_))))
   ·
    replace h:=Gz hb h
    refine G7 fun K33 hK33=>G2 (JLh (E2 boxes) (G5 O O) O (JLh (Ef y27) (Gb Jq O O O) O (JLh (G0 y27.Gv) (Gh Gd O O O) O ?_)))
    obtain⟨r34,hr34,h⟩:=Gf h
    refine JLh (.tup [.agg (Gv.cs r34.1),BL r34.2]) (Gq (args:=[E2 boxes,G0 y27.Gv]) O (Hb6 boxes y27.Gv r34 hr34) J23 ⟨O,O,O,O,G⟩) O (JLh (.tup [.agg (Gv.cs r34.1),BL r34.2]) (G5 O O) O (JLh (.agg (Gv.cs r34.1)) (J1 O O O) O (JLh (BL r34.2) (J1 O O O) O (JLh (.ptr 1139 0) (Jb 1139 9 G1f O O) O (J4 (u:=.junk) (Ht (u:=.agg (Gv.cs r34.1)) (ds:=(Gv.cs r34.1)) Zt O O O O O O O O) (JLh (BL r34.2) (G9 O O) O (G8 (hK33 _ _ ?_))))))))
    refine Gx [(0,E2 boxes),(2,G0 column),(3,U8 half),(9,G0 s27),(12,Ei r34.1),(13,BL r34.2),(14,E0 l),(15,En l.length),(16,En i27)] [] 1139 rfl rfl rfl G rfl (by repeat' (first | exact .ptr | constructor)) (G7 fun K35 hK35=>G2 (JLh (BL r34.2) (G5 O O) O (G8 (hK35 _ _ (Gn O (fun hb=>?_) (fun hb=>?_))))))
    ·
     replace h:=Gz hb h
     refine G2 (JLh (G0 s27) (G5 O O) O (JLh (.agg (Gv.cs r34.1)) (Gj Z5 O O O) O ?_))
     obtain⟨r36,hr36,h⟩:=Gf h
     refine JLh (G0 r36) (Gq (args:=[.agg (Gv.cs r34.1)]) O (M_stow_tall_w r34.1 r36 hr36) Jbc ⟨O,O,G⟩) O ?_
     obtain⟨v37,hv37,h⟩:=Qw h
     refine JLh (G0 v37) (Hy hv37 O O O) O (JLh (G0 v37) (G9 O O) O (G8 (ej30 _ _ v37 h ⟨(by repeat' constructor),G,rfl⟩)))
    ·
     replace h:=Hv hb h
     refine Gp (ej30 _ _ s27 h ⟨(by repeat' constructor),G,rfl⟩)
   ·
    replace h:=Hv hb h
    refine Gp (ej30 _ _ s27 h ⟨(by repeat' constructor),G,rfl⟩)
  ·intro j30 h
   replace h:=app1 hkj30 h
   refine G2 (JLh (G0 ((i27+1:Nat):Int)) (Hy (He hk27 hm15) O O O) O (JLh (G0 ((i27+1:Nat):Int)) (G5 O O) O (G8 (e27 _ _ (i27+1) j30 (app1 hn27 h) (by omega) ⟨(by repeat' constructor),G,rfl⟩))))
 ·
  have h:=app1 hkx27 (Ho hi27 (H9 hb))
  refine Hk (hK3 _ _ (G7 fun K38 hK38=>G2 (JLh (G0 s27) (G5 O O) O (JLh (G0 s27) (G9 O O) O (G8 (hK38 _ _ (Gu (⟨[G0 s27],[],G,O,⟨⟨_,O,.conv (.same O)⟩,G⟩,O,congrArg (fun r:Int=>(G0 r:AV)) (Option.some.inj h)⟩))))))))

def Gb9 (s:Hb) (boxes:List Gv) (l:List G6) (column:Int):Option Bool:=
 Q3 s.Columns column fun y3=>
 bnd (bif (!(decide (y3.Height≤0))) then G4d boxes l column 1 else some default) fun r6=>
 bnd (bif ((!(decide (y3.Height≤0)))&&(decide (r6≤y3.Height))) then G4d boxes l column 2 else some default) fun r7=>
 some ((decide (y3.Height≤0))||((decide (r6≤y3.Height))&&(decide (r7≤y3.Height))))
theorem M_stow_fits_w (s:Hb) (boxes:List Gv) (l:List G6) (column:Int) (r:Bool) (h:Gb9 s boxes l column=some r):Pure Tryz.prog 156 [.agg (Hb.cs s),E2 boxes,E0 l,G0 column] (·=BL r):=by
 unfold Gb9 at h
 refine H1 [.tmp 8] Tryz.func156 O O (G7 fun K1 hK1=>G2 (JLh (.ptr 1101 0) (Jy (u:=.agg (Hb.cs s)) (cs:=(Hb.cs s)) 1101 O O O O O) O (JLh (BL false) (G9 O O) O (G8 (hK1 _ _ ?_)))))
 refine Gx [(1,E2 boxes),(2,E0 l),(3,G0 column),(4,Ee s)] [] 1101 rfl rfl rfl G rfl (by repeat' (first | exact .ptr | constructor)) ?_
 refine G7 fun K2 hK2=>G2 (JLh (Ee s) (Gb Hi O O O) O (JLh (E3 s.Columns) (Gh Hq O O O) O (JLh (G0 column) (G5 O O) O ?_)))
 obtain⟨m4,y3,hm4,hy3,h⟩:=Y3 h
 refine JLh (Eh y3) (Gt (f:=G4.av) (xs:=s.Columns) (y:=y3) O O O H7 hy3 hm4) O (JLh (.dptr ((G4.cs y3).drop 4)) (Gb Zu O O O) O (JLh (G0 y3.Height) (Gh Gd O O O) O (JLh (G0 y3.Height) (G9 O O) O (G8 (hK2 _ _ (G7 fun K5 hK5=>G2 (JLh (G0 y3.Height) (G5 O O) O (JLh (BL (decide (y3.Height≤0))) (H98 O O O) O (JLh (BL (decide (y3.Height≤0))) (G5 O O) O (Ga (u:=E2 boxes) [] O O O .scf G (fun hc=>G5 O O) ?_))))))))))
 refine Ga (u:=E0 l) [] O O O .scf G (fun hc=>G5 O O) ?_
 refine Ga (u:=G0 column) [] O O O .scf G (fun hc=>G5 O O) ?_
 obtain⟨r6,hr6,h⟩:=Gf h
 refine Ga (u:=G0 r6) [(19,E2 boxes),(20,E0 l),(21,G0 column)] O O O .scf ⟨.all id,.all id,.all id,G⟩ (fun hc=>Gq (args:=[E2 boxes,E0 l,G0 column,U8 1]) O (H63 boxes l column 1 r6 (Gz hc hr6)) J1b ⟨O,O,O,O,O,O,O,O,G⟩) ?_
 refine Ga (u:=G0 y3.Height) [] O O O .scf G (fun hc=>G5 O O) ?_
 refine Ga (u:=BL (decide (r6≤y3.Height))) [(22,G0 r6),(23,G0 y3.Height)] O O O .scf ⟨.all id,.all id,G⟩ (fun hc=>H98 O O O) ?_
 refine Ga (u:=BL (decide (r6≤y3.Height))) [(24,BL (decide (r6≤y3.Height)))] O O O .scf ⟨.all id,G⟩ (fun hc=>G5 O O) ?_
 refine Ga (u:=E2 boxes) [] O O O .optt G (fun hc=>G5 O O) ?_
 refine Ga (u:=E0 l) [] O O O .optt G (fun hc=>G5 O O) ?_
 refine Ga (u:=G0 column) [] O O O .optt G (fun hc=>G5 O O) ?_
 obtain⟨r7,hr7,h⟩:=Gf h
 refine Ga (u:=G0 r7) [(26,E2 boxes),(27,E0 l),(28,G0 column)] O O O .optt ⟨.all id,.all id,.all id,G⟩ (fun hc=>Gq (args:=[E2 boxes,E0 l,G0 column,U8 2]) O (H63 boxes l column 2 r7 (Gz hc hr7)) J1b ⟨O,O,O,O,O,O,O,O,G⟩) ?_
 refine Ga (u:=G0 y3.Height) [] O O O .optt G (fun hc=>G5 O O) ?_
 refine Ga (u:=BL (decide (r7≤y3.Height))) [(29,G0 r7),(30,G0 y3.Height)] O O O .optt ⟨.all id,.all id,G⟩ (fun hc=>H98 O O O) ?_
 refine Ga (u:=BL ((decide (r6≤y3.Height))&&(decide (r7≤y3.Height)))) [(25,BL (decide (r6≤y3.Height))),(31,_)] O O O .scf ⟨.all id,.part,G⟩ (fun hc=>Hx O O O O) ?_
 refine JLh (BL ((decide (y3.Height≤0))||((decide (r6≤y3.Height))&&(decide (r7≤y3.Height))))) (Rn O O O O) O (JLh (BL ((decide (y3.Height≤0))||((decide (r6≤y3.Height))&&(decide (r7≤y3.Height))))) (G9 O O) O (G8 (hK5 _ _ (Gu (⟨[BL ((decide (y3.Height≤0))||((decide (r6≤y3.Height))&&(decide (r7≤y3.Height))))],[],G,O,⟨⟨_,O,.conv (.same O)⟩,G⟩,O,congrArg (fun r:Bool=>(BL r:AV)) (Option.some.inj h)⟩)))))

def G0b (s:Hb) (boxes:List Gv) (l:List G6):Option Bool:=
 bnd (G3e s) fun r4=>
 bif (!r4) then
 (some false)
 else
 (bnd (G99 l) fun r7=>
  each (fun y10 i10 (s10:Unit) nx10=>
   bnd (G88 boxes y10.Gv) fun r16=>
   bnd (bif ((!(!r16.2))&&(decide (0 < (i10:Int)))) then G32 ((i10:Int) - 1) some else some 0) fun v19=>
   bnd (bif ((!(!r16.2))&&(decide (0 < (i10:Int)))) then Q3 l v19 some else some default) fun y20=>
   bnd (bif (!((!r16.2)||((decide (0 < (i10:Int)))&&(decide (y10.Gv≤y20.Gv))))) then G9a s y10.Slot r16.1.Size else some default) fun r21=>
   bnd (bif (!(((!r16.2)||((decide (0 < (i10:Int)))&&(decide (y10.Gv≤y20.Gv))))||(!r21))) then Gbc y10.Slot r7 else some default) fun r22=>
   bif ((((!r16.2)||((decide (0 < (i10:Int)))&&(decide (y10.Gv≤y20.Gv))))||(!r21))||(!r22)) then
   (some false)
   else
   (bnd (G24 (i10:Int) r7.length) fun m25=>
    each (fun y42 i42 (s42:Unit) nx42=>
     bnd (Gbb y10.Slot y42) fun r48=>
     bif r48 then
     (some false)
     else
     (nx42 ()))
    (fun(s42:Unit)=>
     nx10 ()) (r7.take m25) 0 ()))
  (fun(s10:Unit)=>
   each (fun y64 i64 (s64:Unit) nx64=>
    bnd (Gb9 s boxes l (i64:Int)) fun r70=>
    bif (!r70) then
    (some false)
    else
    (nx64 ()))
   (fun(s64:Unit)=>
    some true) s.Columns 0 ()) l 0 ())
theorem Gfb (s:Hb) (boxes:List Gv) (l:List G6) (r:Bool) (h:G0b s boxes l=some r):Pure Tryz.prog 72 [.agg (Hb.cs s),E2 boxes,E0 l] (·=BL r):=by
 unfold G0b at h
 refine H1 [.tmp 6] Tryz.func72 O O (G7 fun K1 hK1=>G2 (JLh (.ptr 1047 0) (Jy (u:=.agg (Hb.cs s)) (cs:=(Hb.cs s)) 1047 O O O O O) O (JLh (BL false) (G9 O O) O (G8 (hK1 _ _ ?_)))))
 refine Gx [(1,E2 boxes),(2,E0 l),(3,Ee s)] [] 1047 rfl rfl rfl G rfl (by exact⟨.conv (.same rfl),.conv (.same rfl),.ptr,G⟩) (G7 (fun K2 hK2=>G7 fun K3 hK3=>G2 (JLh (.agg (Hb.cs s)) (Gj J8 O O O) O ?_)))
 obtain⟨r4,hr4,h⟩:=Gf h
 refine JLh (BL r4) (Gq (args:=[.agg (Hb.cs s)]) O (H8e.down s r4 hr4) J62 ⟨O,O,G⟩) O (JLh (BL (!r4)) (Qv (b:=r4) O O) O (G8 (hK3 _ _ (Gn O (fun hb=>?_) (fun hb=>?_)))))
 ·
  replace h:=Gz hb h
  refine G7 fun K5 hK5=>G2 (JLh (BL false) (G9 O O) O (G8 (hK5 _ _ (Gu (⟨[BL false],[],G,O,⟨⟨_,O,.conv (.same O)⟩,G⟩,O,congrArg (fun r:Bool=>(BL r:AV)) (Option.some.inj h)⟩)))))
 ·
  replace h:=Hv hb h
  refine Gp (hK2 _ _ (G7 fun K6 hK6=>G2 (JLh (E0 l) (G5 O O) O ?_)))
  obtain⟨r7,hr7,h⟩:=Gf h
  refine JLh (E8 r7) (Gq (args:=[E0 l]) O (J88 l r7 hr7) Je0 ⟨O,O,G⟩) O (JLh (E8 r7) (G9 O O) O (G8 (hK6 _ _ (G7 (fun K8 hK8=>G7 fun K9 hK9=>G2 (JLh (E0 l) (G5 O O) O (H3 (f:=G6.av) (xs:=l) H2 O O (fun hm21=>?_) O O O)))))))
  refine JLh (G0 0) (G5 O O) O (G8 (hK9 _ _ (Gk ?_)))
  obtain⟨b10,kx10,hb10,hkx10,h⟩:=Hw h
  refine Hc (fun i10 (s10:Unit)=>each b10 kx10 (List.drop i10 l) i10 s10=some r) (fun i10 s10=>[(1,E2 boxes),(2,E0 l),(3,Ee s),(7,E8 r7),(20,E0 l),(21,En l.length),(22,En i10)]) (fun i10 s10=>[]) (fun i10=>l.length - i10) 0 () h ⟨(by repeat' constructor),G,rfl⟩ ?_
  clear h
  intro i10 s10 hi10 K10 e10
  refine G7 fun K11 hK11=>G2 (JLh (BL (decide ((i10:Int) < (l.length:Int)))) (J2 O O O) O (G8 (hK11 _ _ (G7 (fun K12 hK12=>Gn O (fun hb=>?_) (fun hb=>?_))))))
  ·
   have hk10:=Jc hb
   obtain⟨y10,nx10,hy10,hn10,h⟩:=Hn hi10 hk10
   replace h:=Yb hb10 h
   refine Gp (hK12 _ _ (G7 (fun K13 hK13=>Gk (G7 fun K14 hK14=>G2 (JLh (En i10) (G5 O O) O (JLh (Ef y10) (Gt (f:=G6.av) (xs:=l) (y:=y10) O O O H2 hy10 O) O (JLh (.agg (G6.cs y10)) (Gj Yo O O O) O (JLh (.ptr 1048 0) (Jb 1048 4 R9 O O) O (JLh (En i10) (G9 O O) O (J4 (u:=.junk) (Ht (u:=.agg (G6.cs y10)) (ds:=[G0 y10.Gv,G0 y10.Slot.G4,G0 y10.Slot.Tier,U8 y10.Slot.Half]) G0c O O O O O O O O) (G8 (hK14 _ _ ?_))))))))))))
   refine Gx [(1,E2 boxes),(2,E0 l),(3,Ee s),(7,E8 r7),(8,En i10),(9,Ef y10),(20,E0 l),(21,En l.length),(22,En i10)] [] 1048 rfl rfl rfl G rfl (by repeat' (first | exact .ptr | constructor)) (G7 fun K15 hK15=>G2 (JLh (E2 boxes) (G5 O O) O (JLh (Ef y10) (Gb Jq O O O) O (JLh (G0 y10.Gv) (Gh Gd O O O) O ?_))))
   obtain⟨r16,hr16,h⟩:=Gf h
   refine JLh (.tup [.agg (Gv.cs r16.1),BL r16.2]) (Gq (args:=[E2 boxes,G0 y10.Gv]) O (Hb6 boxes y10.Gv r16 hr16) J23 ⟨O,O,O,O,G⟩) O (JLh (.tup [.agg (Gv.cs r16.1),BL r16.2]) (G5 O O) O (JLh (.agg (Gv.cs r16.1)) (J1 O O O) O (JLh (BL r16.2) (J1 O O O) O (JLh (.ptr 1049 0) (Jb 1049 9 G1f O O) O (J4 (u:=.junk) (Ht (u:=.agg (Gv.cs r16.1)) (ds:=(Gv.cs r16.1)) Zt O O O O O O O O) (JLh (BL r16.2) (G9 O O) O (G8 (hK15 _ _ ?_))))))))
   refine Gx [(1,E2 boxes),(2,E0 l),(3,Ee s),(7,E8 r7),(8,En i10),(9,Ef y10),(10,Ei r16.1),(11,BL r16.2),(20,E0 l),(21,En l.length),(22,En i10)] [] 1049 rfl rfl rfl G rfl (by repeat' (first | exact .ptr | constructor)) (G7 (fun K17 hK17=>G7 (fun K18 hK18=>?_)))
   obtain⟨v19,hv19,h⟩:=Gf h
   obtain⟨y20,hy20,h⟩:=Gf h
   obtain⟨r21,hr21,h⟩:=Gf h
   obtain⟨r22,hr22,h⟩:=Gf h
   refine Q6 [] [0,0,0,0,0,0,0,0,0,0,0,0,0,0,0,0,0,0,0,0,0,0,0,0,0,0,0,0,0,0,0,0,0] [0,0,0,0,0,0,0,0,0,0,0,0,0,0,0,0,0,0,0,0,0,0,0,0,0,0,0,0,0,0,0,0,0] [[]] Jk (by kernel_rfl) rfl rfl ?_
   refine Gc (u:=BL r16.2) O O ⟨Gw (G5 O O) O,G⟩ (Gc (u:=BL (!r16.2)) O O ⟨Gw (Qv (b:=r16.2) O O) O,G⟩ (Gc (u:=BL (!r16.2)) O O ⟨Gw (G5 O O) O,G⟩ (Gc (u:=.opt (!(!r16.2)) (En i10)) O O ⟨Ge [] O O O .scf G (fun hc=>G5 O O) O,G⟩ (Gc (u:=.opt (!(!r16.2)) (BL (decide (0 < (i10:Int))))) O O ⟨Ge [(37,En i10)] O O O .scf ⟨.all id,G⟩ (fun hc=>G31 O O O) O,G⟩ (Gc (u:=.opt (!(!r16.2)) (BL (decide (0 < (i10:Int))))) O O ⟨Ge [(38,BL (decide (0 < (i10:Int))))] O O O .scf ⟨.all id,G⟩ (fun hc=>G5 O O) O,G⟩ (Gc (u:=.opt ((!(!r16.2))&&(decide (0 < (i10:Int)))) (Ef y10)) O O ⟨Ge [] O O O .optt G (fun hc=>Gb Jq O O O) O,G⟩ (Gc (u:=.opt ((!(!r16.2))&&(decide (0 < (i10:Int)))) (G0 y10.Gv)) O O ⟨Ge [(40,Ef y10)] O O O .optt ⟨.all id,G⟩ (fun hc=>Gh Gd O O O) O,G⟩ (Gc (u:=.opt ((!(!r16.2))&&(decide (0 < (i10:Int)))) (E0 l)) O O ⟨Ge [] O O O .optt G (fun hc=>G5 O O) O,G⟩ (Gc (u:=.opt ((!(!r16.2))&&(decide (0 < (i10:Int)))) (En i10)) O O ⟨Ge [] O O O .optt G (fun hc=>G5 O O) O,G⟩ (Gc (u:=.opt ((!(!r16.2))&&(decide (0 < (i10:Int)))) (G0 v19)) O O ⟨Ge [(43,En i10)] O O O .optt ⟨.all id,G⟩ (fun hc=>Gcb (G04 (Gz hc hv19)) O O O) O,G⟩ (Gc (u:=.opt ((!(!r16.2))&&(decide (0 < (i10:Int)))) (Ef y20)) O O ⟨Ge [(42,E0 l),(44,G0 v19)] O O O .optt ⟨.all id,.all id,G⟩ (fun hc=>(match Jf (Gz hc hy20) with | ⟨_,hm_,hy_⟩=>Gt (f:=G6.av) (xs:=l) (y:=y20) O O O H2 hy_ hm_)) O,G⟩ (Gc (u:=.opt ((!(!r16.2))&&(decide (0 < (i10:Int)))) (Ef y20)) O O ⟨Ge [(45,Ef y20)] O O O .optt ⟨.all id,G⟩ (fun hc=>Gb Jq O O O) O,G⟩ (Gc (u:=.opt ((!(!r16.2))&&(decide (0 < (i10:Int)))) (G0 y20.Gv)) O O ⟨Ge [(46,Ef y20)] O O O .optt ⟨.all id,G⟩ (fun hc=>Gh Gd O O O) O,G⟩ ?_)))))))))))))
   refine Gc (u:=.opt ((!(!r16.2))&&(decide (0 < (i10:Int)))) (BL (decide (y10.Gv≤y20.Gv)))) O O ⟨Ge [(41,G0 y10.Gv),(47,G0 y20.Gv)] O O O .optt ⟨.all id,.all id,G⟩ (fun hc=>H98 O O O) O,G⟩ (Gc (u:=.opt (!(!r16.2)) (BL ((decide (0 < (i10:Int)))&&(decide (y10.Gv≤y20.Gv))))) O O ⟨Ge [(39,BL (decide (0 < (i10:Int)))),(48,_)] O O O .scf ⟨.all id,.part,G⟩ (fun hc=>Hx O O O O) O,G⟩ (Gc (u:=BL ((!r16.2)||((decide (0 < (i10:Int)))&&(decide (y10.Gv≤y20.Gv))))) O O ⟨Gw (Rn O O O O) O,G⟩ (Gc (u:=BL ((!r16.2)||((decide (0 < (i10:Int)))&&(decide (y10.Gv≤y20.Gv))))) O O ⟨Gw (G5 O O) O,G⟩ (Gc (u:=.opt (!((!r16.2)||((decide (0 < (i10:Int)))&&(decide (y10.Gv≤y20.Gv))))) (.agg (Hb.cs s))) O O ⟨Ge [] O O O .scf G (fun hc=>Gj J8 O O O) O,G⟩ (Gc (u:=.opt (!((!r16.2)||((decide (0 < (i10:Int)))&&(decide (y10.Gv≤y20.Gv))))) (Eg y10.Slot)) O O ⟨Ge [] O O O .scf G (fun hc=>Gb Hz O O O) O,G⟩ (Gc (u:=.opt (!((!r16.2)||((decide (0 < (i10:Int)))&&(decide (y10.Gv≤y20.Gv))))) (.agg (Slot.cs y10.Slot))) O O ⟨Ge [(53,Eg y10.Slot)] O O O .scf ⟨.all id,G⟩ (fun hc=>Gj Jh O O O) O,G⟩ (Gc (u:=.opt (!((!r16.2)||((decide (0 < (i10:Int)))&&(decide (y10.Gv≤y20.Gv))))) (.dptr ((Gv.cs r16.1).drop 2))) O O ⟨Ge [] O O O .scf G (fun hc=>Gb G8f O O O) O,G⟩ (Gc (u:=.opt (!((!r16.2)||((decide (0 < (i10:Int)))&&(decide (y10.Gv≤y20.Gv))))) (U8 r16.1.Size)) O O ⟨Ge [(55,.dptr ((Gv.cs r16.1).drop 2))] O O O .scf ⟨.all id,G⟩ (fun hc=>Gh Jn O O O) O,G⟩ (Gc (u:=.opt (!((!r16.2)||((decide (0 < (i10:Int)))&&(decide (y10.Gv≤y20.Gv))))) (BL r21)) O O ⟨Ge [(52,.agg (Hb.cs s)),(54,.agg (Slot.cs y10.Slot)),(56,U8 r16.1.Size)] O O O .scf ⟨.all id,.all id,.all id,G⟩ (fun hc=>Gq (args:=[.agg (Hb.cs s),.agg (Slot.cs y10.Slot),U8 r16.1.Size]) O (J89 s y10.Slot r16.1.Size r21 (Gz hc hr21)) Jdf ⟨O,O,O,O,O,O,G⟩) O,G⟩ (Gc (u:=.opt (!((!r16.2)||((decide (0 < (i10:Int)))&&(decide (y10.Gv≤y20.Gv))))) (BL (!r21))) O O ⟨Ge [(57,BL r21)] O O O .scf ⟨.all id,G⟩ (fun hc=>Qv (b:=r21) O O) O,G⟩ (Gc (u:=BL (((!r16.2)||((decide (0 < (i10:Int)))&&(decide (y10.Gv≤y20.Gv))))||(!r21))) O O ⟨Gw (Rn O O O O) O,G⟩ (Gc (u:=BL (((!r16.2)||((decide (0 < (i10:Int)))&&(decide (y10.Gv≤y20.Gv))))||(!r21))) O O ⟨Gw (G5 O O) O,G⟩ (Gc (u:=.opt (!(((!r16.2)||((decide (0 < (i10:Int)))&&(decide (y10.Gv≤y20.Gv))))||(!r21))) (Eg y10.Slot)) O O ⟨Ge [] O O O .scf G (fun hc=>Gb Hz O O O) O,G⟩ ?_)))))))))))))
   refine Gc (u:=.opt (!(((!r16.2)||((decide (0 < (i10:Int)))&&(decide (y10.Gv≤y20.Gv))))||(!r21))) (.agg (Slot.cs y10.Slot))) O O ⟨Ge [(61,Eg y10.Slot)] O O O .scf ⟨.all id,G⟩ (fun hc=>Gj Jh O O O) O,G⟩ (Gc (u:=.opt (!(((!r16.2)||((decide (0 < (i10:Int)))&&(decide (y10.Gv≤y20.Gv))))||(!r21))) (E8 r7)) O O ⟨Ge [] O O O .scf G (fun hc=>G5 O O) O,G⟩ (Gc (u:=.opt (!(((!r16.2)||((decide (0 < (i10:Int)))&&(decide (y10.Gv≤y20.Gv))))||(!r21))) (BL r22)) O O ⟨Ge [(62,.agg (Slot.cs y10.Slot)),(63,E8 r7)] O O O .scf ⟨.all id,.all id,G⟩ (fun hc=>Gq (args:=[.agg (Slot.cs y10.Slot),E8 r7]) O (M_slot_Held_w y10.Slot r7 r22 (Gz hc hr22)) Jde ⟨O,O,O,O,G⟩) O,G⟩ (Gc (u:=.opt (!(((!r16.2)||((decide (0 < (i10:Int)))&&(decide (y10.Gv≤y20.Gv))))||(!r21))) (BL (!r22))) O O ⟨Ge [(64,BL r22)] O O O .scf ⟨.all id,G⟩ (fun hc=>Qv (b:=r22) O O) O,G⟩ (Gc (u:=BL ((((!r16.2)||((decide (0 < (i10:Int)))&&(decide (y10.Gv≤y20.Gv))))||(!r21))||(!r22))) O O ⟨Gw (Rn O O O O) O,G⟩ (Yz ?_)))))
   refine hK18 _ _ (Gn O (fun hb=>?_) (fun hb=>?_))
   ·
    replace h:=Gz hb h
    refine G7 fun K23 hK23=>G2 (JLh (BL false) (G9 O O) O (G8 (hK23 _ _ (Gu (⟨[BL false],[],G,O,⟨⟨_,O,.conv (.same O)⟩,G⟩,O,congrArg (fun r:Bool=>(BL r:AV)) (Option.some.inj h)⟩)))))
   ·
    replace h:=Hv hb h
    refine Gp (hK17 _ _ (G7 fun K24 hK24=>G2 (JLh (E8 r7) (G5 O O) O (JLh (En i10) (G5 O O) O ?_))))
    obtain⟨m25,hm25,h⟩:=Gf h
    refine JLh (E8 (r7.take m25)) (Q17 (f:=Slot.av) (xs:=r7) O O O Rx (Rz hm25)) O (H3 (f:=Slot.av) (xs:=(r7.take m25)) Rx O O (fun hm70=>?_) O O O)
    refine JLh (G0 0) (G5 O O) O (G8 (hK24 _ _ (Gk ?_)))
    obtain⟨b42,kx42,hb42,hkx42,h⟩:=Hw h
    refine Hc (fun i42 (s42:Unit)=>each b42 kx42 (List.drop i42 (r7.take m25)) i42 s42=some r) (fun i42 s42=>[(1,E2 boxes),(2,E0 l),(3,Ee s),(7,E8 r7),(9,Ef y10),(20,E0 l),(21,En l.length),(22,En i10),(69,E8 (r7.take m25)),(70,G0 ((r7.take m25).length:Int)),(71,En i42)]) (fun i42 s42=>[]) (fun i42=>(r7.take m25).length - i42) 0 () h ⟨(by repeat' constructor),G,rfl⟩ ?_
    clear h
    intro i42 s42 hi42 K42 e42
    refine G7 fun K43 hK43=>G2 (JLh (BL (decide ((i42:Int) < ((r7.take m25).length:Int)))) (J2 O O O) O (G8 (hK43 _ _ (G7 (fun K44 hK44=>Gn O (fun hb=>?_) (fun hb=>?_))))))
    ·
     have hk42:=Jc hb
     obtain⟨y42,nx42,hy42,hn42,h⟩:=Hn hi42 hk42
     replace h:=Yb hb42 h
     refine Gp (hK44 _ _ (G7 (fun K45 hK45=>Gk (G7 fun K46 hK46=>G2 (JLh (Eg y42) (Gt (f:=Slot.av) (xs:=(r7.take m25)) (y:=y42) O O O Rx hy42 O) O (JLh (.agg (Slot.cs y42)) (Gj Jh O O O) O (JLh (.ptr 1050 0) (Jb 1050 3 Zo O O) O (J4 (u:=.junk) (Ht (u:=.agg (Slot.cs y42)) (ds:=[G0 y42.G4,G0 y42.Tier,U8 y42.Half]) G0d O O O O O O O O) (G8 (hK46 _ _ ?_))))))))))
     refine Gx [(1,E2 boxes),(2,E0 l),(3,Ee s),(7,E8 r7),(9,Ef y10),(13,Eg y42),(20,E0 l),(21,En l.length),(22,En i10),(69,E8 (r7.take m25)),(70,G0 ((r7.take m25).length:Int)),(71,En i42)] [] 1050 rfl rfl rfl G rfl (by repeat' (first | exact .ptr | constructor)) ?_
     refine G7 fun K47 hK47=>G2 (JLh (Eg y10.Slot) (Gb Hz O O O) O (JLh (.agg (Slot.cs y10.Slot)) (Gj Jh O O O) O (JLh (.agg (Slot.cs y42)) (Gj Jh O O O) O ?_)))
     obtain⟨r48,hr48,h⟩:=Gf h
     refine JLh (BL r48) (Gq (args:=[.agg (Slot.cs y10.Slot),.agg (Slot.cs y42)]) O (M_slot_Meet_w y10.Slot y42 r48 hr48) Jdd ⟨O,O,O,O,G⟩) O (G8 (hK47 _ _ (Gn O (fun hb=>?_) (fun hb=>?_))))
     ·
      replace h:=Gz hb h
      refine G7 fun K49 hK49=>G2 (JLh (BL false) (G9 O O) O (G8 (hK49 _ _ (Gu (⟨[BL false],[],G,O,⟨⟨_,O,.conv (.same O)⟩,G⟩,O,congrArg (fun r:Bool=>(BL r:AV)) (Option.some.inj h)⟩)))))
     ·
      replace h:=Hv hb h
      refine Gp (hK45 _ _ (G2 (JLh (G0 ((i42+1:Nat):Int)) (Hy (He hk42 hm70) O O O) O (JLh (G0 ((i42+1:Nat):Int)) (G5 O O) O (G8 (e42 _ _ (i42+1) () (app1 hn42 h) (by omega) ⟨(by repeat' constructor),G,rfl⟩))))))
    ·
     have h:=app1 hkx42 (Ho hi42 (H9 hb))
     refine Hk (hK13 _ _ (G2 (JLh (G0 ((i10+1:Nat):Int)) (Hy (He hk10 hm21) O O O) O (JLh (G0 ((i10+1:Nat):Int)) (G5 O O) O (G8 (e10 _ _ (i10+1) () (app1 hn10 h) (by omega) ⟨(by repeat' constructor),G,rfl⟩))))))
  ·
   have h:=app1 hkx10 (Ho hi10 (H9 hb))
   refine Hk (hK8 _ _ (G7 (fun K50 hK50=>G7 fun K51 hK51=>G2 (JLh (Ee s) (Gb Hi O O O) O (JLh (E3 s.Columns) (Gh Hq O O O) O (H3 (f:=G4.av) (xs:=s.Columns) H7 O O (fun hm83=>?_) O O O))))))
   refine JLh (G0 0) (G5 O O) O (G8 (hK51 _ _ (Gk ?_)))
   obtain⟨b64,kx64,hb64,hkx64,h⟩:=Hw h
   refine Hc (fun i64 (s64:Unit)=>each b64 kx64 (List.drop i64 s.Columns) i64 s64=some r) (fun i64 s64=>[(1,E2 boxes),(2,E0 l),(3,Ee s),(83,En s.Columns.length),(84,En i64)]) (fun i64 s64=>[]) (fun i64=>s.Columns.length - i64) 0 () h ⟨(by repeat' constructor),G,rfl⟩ ?_
   clear h
   intro i64 s64 hi64 K64 e64
   refine G7 fun K65 hK65=>G2 (JLh (BL (decide ((i64:Int) < (s.Columns.length:Int)))) (J2 O O O) O (G8 (hK65 _ _ (G7 (fun K66 hK66=>Gn O (fun hb=>?_) (fun hb=>?_))))))
   ·
    have hk64:=Jc hb
    obtain⟨y64,nx64,hy64,hn64,h⟩:=Hn hi64 hk64
    replace h:=Yb hb64 h
    refine Gp (hK66 _ _ (G7 (fun K67 hK67=>Gk (G7 fun K68 hK68=>G2 (JLh (En i64) (G5 O O) O (JLh (En i64) (G9 O O) O (G8 (hK68 _ _ (G7 fun K69 hK69=>G2 (JLh (.agg (Hb.cs s)) (Gj J8 O O O) O (JLh (E2 boxes) (G5 O O) O (JLh (E0 l) (G5 O O) O (JLh (En i64) (G5 O O) O ?_)))))))))))))
    obtain⟨r70,hr70,h⟩:=Gf h
    refine JLh (BL r70) (Gq (args:=[.agg (Hb.cs s),E2 boxes,E0 l,En i64]) O (M_stow_fits_w s boxes l (i64:Int) r70 hr70) Jdc ⟨O,O,O,O,O,O,O,O,G⟩) O (JLh (BL (!r70)) (Qv (b:=r70) O O) O (G8 (hK69 _ _ (Gn O (fun hb=>?_) (fun hb=>?_)))))
    ·
     replace h:=Gz hb h
     refine G7 fun K71 hK71=>G2 (JLh (BL false) (G9 O O) O (G8 (hK71 _ _ (Gu (⟨[BL false],[],G,O,⟨⟨_,O,.conv (.same O)⟩,G⟩,O,congrArg (fun r:Bool=>(BL r:AV)) (Option.some.inj h)⟩)))))
    ·
     replace h:=Hv hb h
     refine Gp (hK67 _ _ (G2 (JLh (G0 ((i64+1:Nat):Int)) (Hy (He hk64 hm83) O O O) O (JLh (G0 ((i64+1:Nat):Int)) (G5 O O) O (G8 (e64 _ _ (i64+1) () (app1 hn64 h) (by omega) ⟨(by repeat' constructor),G,rfl⟩))))))
   ·
    have h:=app1 hkx64 (Ho hi64 (H9 hb))
    refine Hk (hK50 _ _ (G7 fun K72 hK72=>G2 (JLh (BL true) (G9 O O) O (G8 (hK72 _ _ (Gu (⟨[BL true],[],G,O,⟨⟨_,O,.conv (.same O)⟩,G⟩,O,congrArg (fun r:Bool=>(BL r:AV)) (Option.some.inj h)⟩)))))))

def G77 (x:G6) (p1:Int):Option Bool:=
 some (decide (x.Gv=p1))
theorem J4a (x:G6) (p1:Int) (r:Bool) (h:G77 x p1=some r):Pure Tryz.prog 174 [.agg (G6.cs x),.dptr [G0 p1]] (·=BL r):=by
 unfold G77 at h
 refine H1 [.tmp 3] Tryz.func174 O O (G7 fun K1 hK1=>G2 (JLh (.ptr 1119 0) (Jy (u:=.agg (G6.cs x)) (cs:=[G0 x.Gv,G0 x.Slot.G4,G0 x.Slot.Tier,U8 x.Slot.Half]) 1119 O O O O O) O (JLh (BL false) (G9 O O) O (G8 (hK1 _ _ (Gx [(1,.dptr [G0 p1]),(2,Ef x)] [] 1119 rfl rfl rfl G rfl (by exact⟨.conv (.same rfl),.ptr,G⟩) (G7 fun K2 hK2=>G2 (JLh (Ef x) (Gb Jq O O O) O (JLh (G0 x.Gv) (Gh Gd O O O) O (JLh (G0 p1) (Gh Gd O O O) O (JLh (BL (decide (x.Gv=p1))) (Jx O O O) O (JLh (BL (decide (x.Gv=p1))) (G9 O O) O (G8 (hK2 _ _ (Gu (⟨[BL (decide (x.Gv=p1))],[],G,O,⟨⟨_,O,.conv (.same O)⟩,G⟩,O,congrArg (fun r:Bool=>(BL r:AV)) (Option.some.inj h)⟩))))))))))))))))

def Yn (s:List G6) (f:G6→Option Bool):Option Int:=
 each (fun y20 i20 (s20:Unit) nx20=>
  bnd (f y20) fun r26=>
  bif r26 then
  (some (i20:Int))
  else
  (nx20 ()))
 (fun(s20:Unit)=>
  some (-1)) s 0 ()
theorem Gac (s:List G6) (f:G6→Option Bool) (f_f:FuncId) (f_c:List AV) (f_B:Hf Tryz.prog f_f=true) (f_d:Zm (fun _=>false) f_c=true) (f_w:∀ a0 q,f a0=some q→Pure Tryz.prog f_f ([.agg (G6.cs a0)]++f_c) (·=BL q)) (r:Int) (h:Yn s f=some r):Pure Tryz.prog 173 [E0 s,.fn f_f f_c] (·=G0 r):=by
 unfold Yn at h
 refine H1 [.tmp 4] Tryz.func173 O O (G7 fun K1 hK1=>G2 (JLh (G0 0) (G9 O O) O (G8 (hK1 _ _ (G7 (fun K2 hK2=>G7 fun K3 hK3=>G2 (JLh (E0 s) (G5 O O) O (H3 (f:=G6.av) (xs:=s) H2 O O (fun hm7=>?_) O O O))))))))
 refine JLh (G0 0) (G5 O O) O (G8 (hK3 _ _ (Gk ?_)))
 obtain⟨b20,kx20,hb20,hkx20,h⟩:=Hw h
 refine Hc (fun i20 (s20:Unit)=>each b20 kx20 (List.drop i20 s) i20 s20=some r) (fun i20 s20=>[(0,E0 s),(1,.fn f_f f_c),(7,En s.length),(8,En i20)]) (fun i20 s20=>[]) (fun i20=>s.length - i20) 0 () h ⟨⟨.same O,.same (Qb _ _ f_d),.same O,.same O,G⟩,G,O⟩ ?_
 clear h
 intro i20 s20 hi20 K20 e20
 refine G7 fun K21 hK21=>G2 (JLh (BL (decide ((i20:Int) < (s.length:Int)))) (J2 O O O) O (G8 (hK21 _ _ (G7 (fun K22 hK22=>Gn O (fun hb=>?_) (fun hb=>?_))))))
 ·
  have hk20:=Jc hb
  obtain⟨y20,nx20,hy20,hn20,h⟩:=Hn hi20 hk20
  replace h:=Yb hb20 h
  refine Gp (hK22 _ _ (G7 (fun K23 hK23=>Gk (G7 fun K24 hK24=>G2 (JLh (En i20) (G5 O O) O (JLh (En i20) (G9 O O) O (G8 (hK24 _ _ (G7 fun K25 hK25=>G2 (JLh (.fn f_f f_c) (G5 O O) O (JLh (E0 s) (G5 O O) O (JLh (En i20) (G5 O O) O (JLh (Ef y20) (Gt (f:=G6.av) (xs:=s) (y:=y20) O O O H2 hy20 O) O (JLh (.agg (G6.cs y20)) (Gj Yo O O O) O ?_))))))))))))))
  obtain⟨r26,hr26,h⟩:=Gf h
  refine JLh (BL r26) (G47 (args:=[.agg (G6.cs y20)]) (caps:=f_c) O O (f_w y20 _ hr26) f_B ⟨O,O,G⟩ f_d) O (G8 (hK25 _ _ (Gn O (fun hb=>?_) (fun hb=>?_))))
  ·
   replace h:=Gz hb h
   refine G7 fun K27 hK27=>G2 (JLh (En i20) (G5 O O) O (JLh (En i20) (G9 O O) O (G8 (hK27 _ _ (Gu (⟨[En i20],[],G,O,⟨⟨_,O,.conv (.same O)⟩,G⟩,O,congrArg (fun r:Int=>(G0 r:AV)) (Option.some.inj h)⟩))))))
  ·
   replace h:=Hv hb h
   refine Gp (hK23 _ _ (G2 (JLh (G0 ((i20+1:Nat):Int)) (Hy (He hk20 hm7) O O O) O (JLh (G0 ((i20+1:Nat):Int)) (G5 O O) O (G8 (e20 _ _ (i20+1) () (app1 hn20 h) (by omega) ⟨⟨.same rfl,.same (Qb _ _ f_d),.same rfl,.same rfl,G⟩,G,rfl⟩))))))
 ·
  have h:=app1 hkx20 (Ho hi20 (H9 hb))
  refine Hk (hK2 _ _ (G7 fun K28 hK28=>G2 (JLh (G0 (-1)) (G9 O O) O (G8 (hK28 _ _ (Gu (⟨[G0 (-1)],[],G,O,⟨⟨_,O,.conv (.same O)⟩,G⟩,O,congrArg (fun r:Int=>(G0 r:AV)) (Option.some.inj h)⟩)))))))

def G28 (l:List G6) (id_:Int):Option (Slot×Bool):=
 bnd (Yn l (fun z0=>G77 z0 id_)) fun r3=>
 bif decide (r3 < 0) then
 (some ((Slot.mk 0 0 0),false))
 else
 (Q3 l r3 fun y8=>
  some (y8.Slot,true))
theorem G2e (l:List G6) (id_:Int) (r:Slot×Bool) (h:G28 l id_=some r):Pure Tryz.prog 82 [E0 l,G0 id_] (·=.tup [.agg (Slot.cs r.1),BL r.2]):=by
 unfold G28 at h
 refine H1 [.cell 4 119,.tmp 5] Tryz.func82 O O (G7 fun K1 hK1=>G2 (JLh (.ptr 1072 0) (Jy (u:=G0 id_) (cs:=[G0 id_]) 1072 O O O O O) O (JLh (.ptr 1073 0) (Zc 1073 [G0 0,G0 0,U8 0] [.int .i64 0,.int .i64 0,.int .u8 0] H11 ⟨.inl O,.inl O,.inl O,G⟩ O O) O (JLh (BL false) (G9 O O) O (G8 (hK1 _ _ (Gx [(0,E0 l),(3,.dptr [G0 id_]),(4,.ptr 1073 0)] [(1073,.box 119 [G0 0,G0 0,U8 0])] 1072 rfl rfl rfl ⟨⟨_,rfl,.boxEq rfl rfl⟩,G⟩ rfl (by exact⟨.conv (.same rfl),.ptr,.conv (.same rfl),G⟩) (G7 fun K2 hK2=>G2 (JLh (E0 l) (G5 O O) O (JLh (.fn 174 [.dptr [G0 id_]]) (G30 (cs:=[.dptr [G0 id_]]) O O) O ?_))))))))))
 obtain⟨r3,hr3,h⟩:=Gf h
 refine JLh (G0 r3) (Gq (args:=[E0 l,.fn 174 [.dptr [G0 id_]]]) O (Gac l (fun z0=>G77 z0 id_) 174 [.dptr [G0 id_]] Jd0 O (fun z0 q hq=>J4a z0 id_ q hq) r3 hr3) Jd1 ⟨O,O,O,O,G⟩) O (JLh (G0 r3) (G9 O O) O (G8 (hK2 _ _ (G7 (fun K4 hK4=>G7 fun K5 hK5=>G2 (JLh (G0 r3) (G5 O O) O (JLh (BL (decide (r3 < 0))) (J2 O O O) O (G8 (hK5 _ _ (Gn O (fun hb=>?_) (fun hb=>?_)))))))))))
 ·
  replace h:=Gz hb h
  refine G7 fun K6 hK6=>G2 (JLh (.agg [G0 0,G0 0,U8 0]) (Jv (cs:=[G0 0,G0 0,U8 0]) [(0,1),(1,1),(2,1)] [G0 0,G0 0,U8 0] [.int .i64 0,.int .i64 0,.int .u8 0] H21 H11 ⟨.inl O,.inl O,.inl O,G⟩ O O) O (J4 (u:=.junk) (Ht (u:=.agg [G0 0,G0 0,U8 0]) (ds:=[G0 0,G0 0,U8 0]) G0d O O O O O O O O) (JLh (BL false) (G9 O O) O (G8 (hK6 _ _ (Gu (⟨[.agg [G0 0,G0 0,U8 0],BL false],[],G,O,⟨⟨_,⟨_,_,_,_,O,O,O,.inl ⟨Jh,O⟩⟩,.conv (.same O)⟩,⟨_,O,.conv (.same O)⟩,G⟩,O,congrArg (fun r:Slot×Bool=>(.tup [.agg (Slot.cs r.1),BL r.2]:AV)) (Option.some.inj h)⟩)))))))
 ·
  replace h:=Hv hb h
  refine Gp (hK4 _ _ (G7 fun K7 hK7=>G2 (JLh (E0 l) (G5 O O) O (JLh (G0 r3) (G5 O O) O ?_))))
  obtain⟨m9,y8,hm9,hy8,h⟩:=Y3 h
  refine JLh (Ef y8) (Gt (f:=G6.av) (xs:=l) (y:=y8) O O O H2 hy8 hm9) O (JLh (Eg y8.Slot) (Gb Hz O O O) O (JLh (.agg (Slot.cs y8.Slot)) (Gj Jh O O O) O (J4 (u:=.junk) (Ht (u:=.agg (Slot.cs y8.Slot)) (ds:=[G0 y8.Slot.G4,G0 y8.Slot.Tier,U8 y8.Slot.Half]) G0d O O O O O O O O) (JLh (BL true) (G9 O O) O (G8 (hK7 _ _ (Gu (⟨[.agg (Slot.cs y8.Slot),BL true],[],G,O,⟨⟨_,⟨_,_,_,_,O,O,O,.inl ⟨Jh,O⟩⟩,.conv (.same O)⟩,⟨_,O,.conv (.same O)⟩,G⟩,O,congrArg (fun r:Slot×Bool=>(.tup [.agg (Slot.cs r.1),BL r.2]:AV)) (Option.some.inj h)⟩))))))))

def G45 (r_:Int) (p1:G4):Option Bool:=
 some (decide (r_=p1.Row))
theorem Hef (r_:Int) (p1:G4) (r:Bool) (h:G45 r_ p1=some r):Pure Tryz.prog 292 [G0 r_,Eh p1] (·=BL r):=by
 unfold G45 at h
 refine H1 [.tmp 3] Tryz.func292 O O (G7 fun K1 hK1=>G2 (JLh (BL false) (G9 O O) O (G8 (hK1 _ _ (G7 fun K2 hK2=>G2 (JLh (G0 r_) (G5 O O) O (JLh (.dptr ((G4.cs p1).drop 1)) (Gb Z3 O O O) O (JLh (G0 p1.Row) (Gh Gd O O O) O (JLh (BL (decide (r_=p1.Row))) (Jx O O O) O (JLh (BL (decide (r_=p1.Row))) (G9 O O) O (G8 (hK2 _ _ (Gu (⟨[BL (decide (r_=p1.Row))],[],G,O,⟨⟨_,O,.conv (.same O)⟩,G⟩,O,congrArg (fun r:Bool=>(BL r:AV)) (Option.some.inj h)⟩))))))))))))))

def G27 (l:List Int) (wanted:Int→Option Bool):Option (List Int):=
 each (fun y21 i21 (s21:(List Int)) nx21=>
  jp (fun kj24=>
   bnd (wanted y21) fun r27=>
   bif r27 then
   (need (decide ((s21.length+[(i21:Int)].length)*8≤140737488355328∧s21.length+[(i21:Int)].length≤maxLen)) <|
    kj24 (s21++[(i21:Int)]))
   else
   (kj24 s21)) fun(j24:(List Int))=>
  nx21 j24)
 (fun(s21:(List Int))=>
  some s21) l 0 []
theorem Had (l:List Int) (wanted:Int→Option Bool) (wanted_f:FuncId) (wanted_c:List AV) (wanted_B:Hf Tryz.prog wanted_f=true) (wanted_d:Zm (fun _=>false) wanted_c=true) (wanted_w:∀ a0 q,wanted a0=some q→Pure Tryz.prog wanted_f ([G0 a0]++wanted_c) (·=BL q)) (r:(List Int)) (h:G27 l wanted=some r):Pure Tryz.prog 291 [E1 l,.fn wanted_f wanted_c] (·=E1 r):=by
 unfold G27 at h
 refine H1 [.tmp 4] Tryz.func291 O O (G7 fun K1 hK1=>G2 (JLh (E1 ([]:List Int)) (R4 1 O O) O (G8 (hK1 _ _ (G7 fun K2 hK2=>G2 (JLh (OW 1150 1 G0 ([]:List Int)) (H3f 1150 3 1 O O O) O (G8 (hK2 _ _ (G7 (fun K3 hK3=>G7 fun K4 hK4=>G2 (JLh (E1 l) (G5 O O) O (H3 (f:=G0) (xs:=l) H0 O O (fun hm9=>?_) O O O))))))))))))
 refine JLh (G0 0) (G5 O O) O (G8 (hK4 _ _ (Gk ?_)))
 obtain⟨b21,kx21,hb21,hkx21,h⟩:=Hw h
 refine Hc (fun i21 (s21:(List Int))=>each b21 kx21 (List.drop i21 l) i21 s21=some r) (fun i21 s21=>[(1,.fn wanted_f wanted_c),(5,OW 1150 1 G0 s21),(8,E1 l),(9,En l.length),(10,En i21)]) (fun i21 s21=>[(1150,.spare 3 1 s21.length s21.length)]) (fun i21=>l.length - i21) 0 [] h ⟨⟨.same (Qb _ _ wanted_d),.same O,.same O,.same O,.same O,G⟩,⟨⟨_,O,.same⟩,G⟩,O⟩ ?_
 clear h
 intro i21 s21 hi21 K21 e21
 refine G7 fun K22 hK22=>G2 (JLh (BL (decide ((i21:Int) < (l.length:Int)))) (J2 O O O) O (G8 (hK22 _ _ (G7 (fun K23 hK23=>Gn O (fun hb=>?_) (fun hb=>?_))))))
 ·
  have hk21:=Jc hb
  obtain⟨y21,nx21,hy21,hn21,h⟩:=Hn hi21 hk21
  replace h:=Yb hb21 h
  refine Gp (hK23 _ _ ?_)
  obtain⟨kj24,hkj24,h⟩:=G69 h
  refine G33 (fun j24:(List Int)=>kj24 j24=some r) (fun j24=>[(1,.fn wanted_f wanted_c),(5,OW 1150 1 G0 j24),(8,E1 l),(9,En l.length),(10,En i21)]) (fun j24=>[(1150,.spare 3 1 j24.length j24.length)]) (fun Kj24 ej24=>?_) ?_
  ·
   refine Gk (G7 fun K25 hK25=>G2 (JLh (En i21) (G5 O O) O (JLh (.dptr [G0 y21]) (Gt (f:=G0) (xs:=l) (y:=y21) O O O H0 hy21 O) O (JLh (G0 y21) (Gh Gd O O O) O (JLh (En i21) (G9 O O) O (JLh (G0 y21) (G9 O O) O (G8 (hK25 _ _ (G7 fun K26 hK26=>G2 (JLh (.fn wanted_f wanted_c) (G5 O O) O (JLh (G0 y21) (G5 O O) O ?_)))))))))))
   obtain⟨r27,hr27,h⟩:=Gf h
   refine JLh (BL r27) (G47 (args:=[G0 y21]) (caps:=wanted_c) O O (wanted_w y21 _ hr27) wanted_B ⟨O,O,G⟩ wanted_d) O (G8 (hK26 _ _ (Gn O (fun hb=>?_) (fun hb=>?_))))
   ·
    replace h:=Gz hb h
    refine G2 (JLh (OW 1150 1 G0 s21) (G5 O O) O (JLh (En i21) (G5 O O) O (JLh (E1 [(i21:Int)]) (Hm (xs:=[En i21]) O ⟨O,O,G⟩ H0 G13 O O O O) O ?_)))
    obtain⟨ha28,h⟩:=J6 h
    refine JLh (OW 1150 1 G0 (s21++[(i21:Int)])) (Yd (f:=G0) (xs:=s21) (ys:=[(i21:Int)]) O O O O H0 G81 ha28 (fun _=>O) (.inl O) O) O (JLh (OW 1150 1 G0 (s21++[(i21:Int)])) (G9 O O) O (G8 (ej24 _ _ (s21++[(i21:Int)]) h ⟨⟨.same (Qb _ _ wanted_d),.same O,.same O,.same O,.same O,G⟩,⟨⟨_,O,.same⟩,G⟩,O⟩)))
   ·
    replace h:=Hv hb h
    refine Gp (ej24 _ _ s21 h ⟨⟨.same (Qb _ _ wanted_d),.same O,.same O,.same O,.same O,G⟩,⟨⟨_,O,.same⟩,G⟩,O⟩)
  ·intro j24 h
   replace h:=app1 hkj24 h
   refine G2 (JLh (G0 ((i21+1:Nat):Int)) (Hy (He hk21 hm9) O O O) O (JLh (G0 ((i21+1:Nat):Int)) (G5 O O) O (G8 (e21 _ _ (i21+1) j24 (app1 hn21 h) (by omega) ⟨⟨.same (Qb _ _ wanted_d),.same rfl,.same rfl,.same rfl,.same rfl,G⟩,⟨⟨_,rfl,.same⟩,G⟩,rfl⟩))))
 ·
  have h:=app1 hkx21 (Ho hi21 (H9 hb))
  refine Hk (hK3 _ _ (G7 fun K29 hK29=>G2 (JLh (OW 1150 1 G0 s21) (G5 O O) O (JLh (OW 1150 1 G0 s21) (G9 O O) O (G8 (hK29 _ _ (Gu (⟨[E1 s21],[],G,O,⟨⟨_,O,.conv (.list O)⟩,G⟩,O,congrArg (fun r:(List Int)=>(E1 r:AV)) (Option.some.inj h)⟩))))))))

def G76 (x:Gg) (c:G4):Option Bool:=
 bnd (bif decide (x.Bay=c.Bay) then G27 x.Rows (fun z0=>G45 z0 c) else some default) fun r3=>
 some ((decide (x.Bay=c.Bay))&&(decide (0 < (r3.length:Int))))
theorem J47 (x:Gg) (c:G4) (r:Bool) (h:G76 x c=some r):Pure Tryz.prog 255 [.agg [G0 x.Bay,E1 x.Rows],.agg (G4.cs c)] (·=BL r):=by
 unfold G76 at h
 refine H1 [.tmp 4] Tryz.func255 O O (G7 fun K1 hK1=>G2 (JLh (.ptr 1145 0) (Jy (u:=.agg [G0 x.Bay,E1 x.Rows]) (cs:=[G0 x.Bay,E1 x.Rows]) 1145 O O O O O) O (JLh (.ptr 1146 0) (Jy (u:=.agg (G4.cs c)) (cs:=(G4.cs c)) 1146 O O O O O) O (JLh (BL false) (G9 O O) O (G8 (hK1 _ _ ?_))))))
 refine Gx [(2,.dptr [G0 x.Bay,E1 x.Rows]),(3,.ptr 1146 0)] [(1146,.box 112 (G4.cs c))] 1145 rfl rfl rfl ⟨⟨_,rfl,.boxEq rfl rfl⟩,G⟩ rfl (by exact⟨.ptr,.conv (.same rfl),G⟩) (Gx [(2,.dptr [G0 x.Bay,E1 x.Rows]),(3,Eh c)] [] 1146 rfl rfl rfl G rfl (by exact⟨.conv (.same rfl),.ptr,G⟩) ?_)
 refine G7 fun K2 hK2=>G2 (JLh (.dptr [G0 x.Bay,E1 x.Rows]) (Gb Yf O O O) O (JLh (G0 x.Bay) (Gh Gd O O O) O (JLh (Eh c) (Gb Z4 O O O) O (JLh (G0 c.Bay) (Gh Gd O O O) O (JLh (BL (decide (x.Bay=c.Bay))) (Jx O O O) O (JLh (BL (decide (x.Bay=c.Bay))) (G5 O O) O (Ga (u:=.dptr [E1 x.Rows]) [] O O O .sct G (fun hc=>Gb Jr O O O) ?_)))))))
 refine Ga (u:=E1 x.Rows) [(11,.dptr [E1 x.Rows])] O O O .sct ⟨.all id,G⟩ (fun hc=>Gh Hg O O O) ?_
 refine Ga (u:=.fn 292 [.dptr (G4.cs c)]) [] O O O .sct G (fun hc=>G30 (cs:=[.dptr (G4.cs c)]) O O) ?_
 obtain⟨r3,hr3,h⟩:=Gf h
 refine Ga (u:=E1 r3) [(12,E1 x.Rows),(13,.fn 292 [.dptr (G4.cs c)])] O O O .sct ⟨.all id,.all id,G⟩ (fun hc=>Gq (args:=[E1 x.Rows,.fn 292 [.dptr (G4.cs c)]]) O (Had x.Rows (fun z0=>G45 z0 c) 292 [.dptr (G4.cs c)] Jba O (fun z0 q hq=>Hef z0 c q hq) r3 (Gz hc hr3)) Jbb ⟨O,O,O,O,G⟩) ?_
 refine Ga (u:=En r3.length) [(14,E1 r3)] O O O .sct ⟨.all id,G⟩ (fun hc=>Qt (f:=G0) (xs:=r3) H0 O O) ?_
 refine Ga (u:=BL (decide (0 < (r3.length:Int)))) [(15,En r3.length)] O O O .sct ⟨.all id,G⟩ (fun hc=>G31 O O O) ?_
 refine JLh (BL ((decide (x.Bay=c.Bay))&&(decide (0 < (r3.length:Int))))) (Hx O O O O) O (JLh (BL ((decide (x.Bay=c.Bay))&&(decide (0 < (r3.length:Int))))) (G9 O O) O (G8 (hK2 _ _ (Gu (⟨[BL ((decide (x.Bay=c.Bay))&&(decide (0 < (r3.length:Int))))],[],G,O,⟨⟨_,O,.conv (.same O)⟩,G⟩,O,congrArg (fun r:Bool=>(BL r:AV)) (Option.some.inj h)⟩)))))

def G12 (x:Gg) (p1:Hb) (p2:Int):Option Bool:=
 Q3 p1.Columns p2 fun y3=>
 bnd (G76 x y3) fun r5=>
 some r5
theorem Hcb (x:Gg) (p1:Hb) (p2:Int) (r:Bool) (h:G12 x p1 p2=some r):Pure Tryz.prog 254 [.agg [G0 x.Bay,E1 x.Rows],Ee p1,.dptr [G0 p2]] (·=BL r):=by
 unfold G12 at h
 refine H1 [.tmp 4] Tryz.func254 O O (G7 fun K1 hK1=>G2 (JLh (.ptr 1144 0) (Jy (u:=.agg [G0 x.Bay,E1 x.Rows]) (cs:=[G0 x.Bay,E1 x.Rows]) 1144 O O O O O) O (JLh (BL false) (G9 O O) O (G8 (hK1 _ _ (Gx [(1,Ee p1),(2,.dptr [G0 p2]),(3,.dptr [G0 x.Bay,E1 x.Rows])] [] 1144 rfl rfl rfl G rfl (by exact⟨.conv (.same rfl),.conv (.same rfl),.ptr,G⟩) (G7 (fun K2 hK2=>?_))))))))
 obtain⟨m4,y3,hm4,hy3,h⟩:=Y3 h
 obtain⟨r5,hr5,h⟩:=Gf h
 refine Q6 [] [0,0,0,0,0,0,0,0] [0,0,0,0,0,0,0,0] [[]] Jk (by kernel_rfl) rfl rfl (Gc (u:=.agg [G0 x.Bay,E1 x.Rows]) O O ⟨Gw (Gj Rh O O O) O,G⟩ (Gc (u:=Ee p1) O O ⟨Gw (Gb Hi O O O) O,G⟩ (Gc (u:=E3 p1.Columns) O O ⟨Gw (Gh Hq O O O) O,G⟩ (Gc (u:=G0 p2) O O ⟨Gw (Gh Gd O O O) O,G⟩ (Gc (u:=Eh y3) O O ⟨Gw (Gt (f:=G4.av) (xs:=p1.Columns) (y:=y3) O O O H7 hy3 hm4) O,G⟩ (Gc (u:=.agg (G4.cs y3)) O O ⟨Gw (Gj Rr O O O) O,G⟩ (Gc (u:=BL r5) O O ⟨Gw (Gq (args:=[.agg [G0 x.Bay,E1 x.Rows],.agg (G4.cs y3)]) O (J47 x y3 r5 hr5) Jbf ⟨O,O,O,O,G⟩) O,G⟩ (Gc (u:=BL r5) O O ⟨Gw (G9 O O) O,G⟩ (Yz (hK2 _ _ ?_))))))))))
 refine Gu (⟨[BL r5],[],G,O,⟨⟨_,O,.conv (.same O)⟩,G⟩,O,congrArg (fun r:Bool=>(BL r:AV)) (Option.some.inj h)⟩)

def Zb (l:List Gg) (wanted:Gg→Option Bool):Option (List Int):=
 each (fun y21 i21 (s21:(List Int)) nx21=>
  jp (fun kj24=>
   bnd (wanted y21) fun r27=>
   bif r27 then
   (need (decide ((s21.length+[(i21:Int)].length)*8≤140737488355328∧s21.length+[(i21:Int)].length≤maxLen)) <|
    kj24 (s21++[(i21:Int)]))
   else
   (kj24 s21)) fun(j24:(List Int))=>
  nx21 j24)
 (fun(s21:(List Int))=>
  some s21) l 0 []
theorem H2c (l:List Gg) (wanted:Gg→Option Bool) (wanted_f:FuncId) (wanted_c:List AV) (wanted_B:Hf Tryz.prog wanted_f=true) (wanted_d:Zm (fun _=>false) wanted_c=true) (wanted_w:∀ a0 q,wanted a0=some q→Pure Tryz.prog wanted_f ([.agg [G0 a0.Bay,E1 a0.Rows]]++wanted_c) (·=BL q)) (r:(List Int)) (h:Zb l wanted=some r):Pure Tryz.prog 253 [E4 l,.fn wanted_f wanted_c] (·=E1 r):=by
 unfold Zb at h
 refine H1 [.tmp 4] Tryz.func253 O O (G7 fun K1 hK1=>G2 (JLh (E1 ([]:List Int)) (R4 1 O O) O (G8 (hK1 _ _ (G7 fun K2 hK2=>G2 (JLh (OW 1142 1 G0 ([]:List Int)) (H3f 1142 3 1 O O O) O (G8 (hK2 _ _ (G7 (fun K3 hK3=>G7 fun K4 hK4=>G2 (JLh (E4 l) (G5 O O) O (H3 (f:=Gg.av) (xs:=l) Hp O O (fun hm9=>?_) O O O))))))))))))
 refine JLh (G0 0) (G5 O O) O (G8 (hK4 _ _ (Gk ?_)))
 obtain⟨b21,kx21,hb21,hkx21,h⟩:=Hw h
 refine Hc (fun i21 (s21:(List Int))=>each b21 kx21 (List.drop i21 l) i21 s21=some r) (fun i21 s21=>[(1,.fn wanted_f wanted_c),(5,OW 1142 1 G0 s21),(8,E4 l),(9,En l.length),(10,En i21)]) (fun i21 s21=>[(1142,.spare 3 1 s21.length s21.length)]) (fun i21=>l.length - i21) 0 [] h ⟨⟨.same (Qb _ _ wanted_d),.same O,.same O,.same O,.same O,G⟩,⟨⟨_,O,.same⟩,G⟩,O⟩ ?_
 clear h
 intro i21 s21 hi21 K21 e21
 refine G7 fun K22 hK22=>G2 (JLh (BL (decide ((i21:Int) < (l.length:Int)))) (J2 O O O) O (G8 (hK22 _ _ (G7 (fun K23 hK23=>Gn O (fun hb=>?_) (fun hb=>?_))))))
 ·
  have hk21:=Jc hb
  obtain⟨y21,nx21,hy21,hn21,h⟩:=Hn hi21 hk21
  replace h:=Yb hb21 h
  refine Gp (hK23 _ _ ?_)
  obtain⟨kj24,hkj24,h⟩:=G69 h
  refine G33 (fun j24:(List Int)=>kj24 j24=some r) (fun j24=>[(1,.fn wanted_f wanted_c),(5,OW 1142 1 G0 j24),(8,E4 l),(9,En l.length),(10,En i21)]) (fun j24=>[(1142,.spare 3 1 j24.length j24.length)]) (fun Kj24 ej24=>?_) ?_
  ·
   refine Gk (G7 fun K25 hK25=>G2 (JLh (En i21) (G5 O O) O (JLh (.dptr [G0 y21.Bay,E1 y21.Rows]) (Gt (f:=Gg.av) (xs:=l) (y:=y21) O O O Hp hy21 O) O (JLh (.agg [G0 y21.Bay,E1 y21.Rows]) (Gj Rh O O O) O (JLh (.ptr 1143 0) (Jb 1143 2 G20 O O) O (JLh (En i21) (G9 O O) O (J4 (u:=.junk) (Ht (u:=.agg [G0 y21.Bay,E1 y21.Rows]) (ds:=[G0 y21.Bay,E1 y21.Rows]) G54 O O O O O O O O) (G8 (hK25 _ _ ?_)))))))))
   refine Gx [(1,.fn wanted_f wanted_c),(5,OW 1142 1 G0 s21),(6,En i21),(7,.dptr [G0 y21.Bay,E1 y21.Rows]),(8,E4 l),(9,En l.length),(10,En i21)] [(1142,.spare 3 1 s21.length s21.length)] 1143 rfl rfl rfl ⟨⟨_,rfl,.same⟩,G⟩ rfl (by exact⟨.conv (.same (Qb _ _ wanted_d)),.conv (.same rfl),.conv (.same rfl),.ptr,.conv (.same rfl),.conv (.same rfl),.conv (.same rfl),G⟩) (G7 fun K26 hK26=>G2 (JLh (.fn wanted_f wanted_c) (G5 O O) O (JLh (.agg [G0 y21.Bay,E1 y21.Rows]) (Gj Rh O O O) O ?_)))
   obtain⟨r27,hr27,h⟩:=Gf h
   refine JLh (BL r27) (G47 (args:=[.agg [G0 y21.Bay,E1 y21.Rows]]) (caps:=wanted_c) O O (wanted_w y21 _ hr27) wanted_B ⟨O,O,G⟩ wanted_d) O (G8 (hK26 _ _ (Gn O (fun hb=>?_) (fun hb=>?_))))
   ·
    replace h:=Gz hb h
    refine G2 (JLh (OW 1142 1 G0 s21) (G5 O O) O (JLh (En i21) (G5 O O) O (JLh (E1 [(i21:Int)]) (Hm (xs:=[En i21]) O ⟨O,O,G⟩ H0 G13 O O O O) O ?_)))
    obtain⟨ha28,h⟩:=J6 h
    refine JLh (OW 1142 1 G0 (s21++[(i21:Int)])) (Yd (f:=G0) (xs:=s21) (ys:=[(i21:Int)]) O O O O H0 G81 ha28 (fun _=>O) (.inl O) O) O (JLh (OW 1142 1 G0 (s21++[(i21:Int)])) (G9 O O) O (G8 (ej24 _ _ (s21++[(i21:Int)]) h ⟨⟨.same (Qb _ _ wanted_d),.same O,.same O,.same O,.same O,G⟩,⟨⟨_,O,.same⟩,G⟩,O⟩)))
   ·
    replace h:=Hv hb h
    refine Gp (ej24 _ _ s21 h ⟨⟨.same (Qb _ _ wanted_d),.same O,.same O,.same O,.same O,G⟩,⟨⟨_,O,.same⟩,G⟩,O⟩)
  ·intro j24 h
   replace h:=app1 hkj24 h
   refine G2 (JLh (G0 ((i21+1:Nat):Int)) (Hy (He hk21 hm9) O O O) O (JLh (G0 ((i21+1:Nat):Int)) (G5 O O) O (G8 (e21 _ _ (i21+1) j24 (app1 hn21 h) (by omega) ⟨⟨.same (Qb _ _ wanted_d),.same rfl,.same rfl,.same rfl,.same rfl,G⟩,⟨⟨_,rfl,.same⟩,G⟩,rfl⟩))))
 ·
  have h:=app1 hkx21 (Ho hi21 (H9 hb))
  refine Hk (hK3 _ _ (G7 fun K29 hK29=>G2 (JLh (OW 1142 1 G0 s21) (G5 O O) O (JLh (OW 1142 1 G0 s21) (G9 O O) O (G8 (hK29 _ _ (Gu (⟨[E1 s21],[],G,O,⟨⟨_,O,.conv (.list O)⟩,G⟩,O,congrArg (fun r:(List Int)=>(E1 r:AV)) (Option.some.inj h)⟩))))))))

def G18 (s:Hb) (column:Int):Option Int:=
 bif ((decide (column < 0))||(decide ((s.Columns.length:Int)≤column))) then
 (some (-1))
 else
 (bnd (Zb s.Covers (fun z0=>G12 z0 s column)) fun r6=>
  bif decide ((r6.length:Int)=0) then
  (some (-1))
  else
  (Q3 r6 0 fun y11=>
   some y11))
theorem H3b (s:Hb) (column:Int) (r:Int) (h:G18 s column=some r):Pure Tryz.prog 170 [.agg (Hb.cs s),G0 column] (·=G0 r):=by
 unfold G18 at h
 refine H1 [.tmp 4] Tryz.func170 O O (G7 fun K1 hK1=>G2 (JLh (.ptr 1115 0) (Jy (u:=.agg (Hb.cs s)) (cs:=(Hb.cs s)) 1115 O O O O O) O (JLh (.ptr 1116 0) (Jy (u:=G0 column) (cs:=[G0 column]) 1116 O O O O O) O (JLh (G0 0) (G9 O O) O (G8 (hK1 _ _ ?_))))))
 refine Gx [(2,Ee s),(3,.ptr 1116 0)] [(1116,.box 3 [G0 column])] 1115 rfl rfl rfl ⟨⟨_,rfl,.boxEq rfl rfl⟩,G⟩ rfl (by exact⟨.ptr,.conv (.same rfl),G⟩) (Gx [(2,Ee s),(3,.dptr [G0 column])] [] 1116 rfl rfl rfl G rfl (by exact⟨.conv (.same rfl),.ptr,G⟩) (G7 (fun K2 hK2=>?_)))
 refine G7 fun K3 hK3=>G2 (JLh (G0 column) (Gh Gd O O O) O (JLh (BL (decide (column < 0))) (J2 O O O) O (JLh (BL (decide (column < 0))) (G5 O O) O (Ga (u:=G0 column) [] O O O .scf G (fun hc=>Gh Gd O O O) ?_))))
 refine Ga (u:=Ee s) [] O O O .scf G (fun hc=>Gb Hi O O O) ?_
 refine Ga (u:=E3 s.Columns) [(10,Ee s)] O O O .scf ⟨.all id,G⟩ (fun hc=>Gh Hq O O O) ?_
 refine Ga (u:=En s.Columns.length) [(11,E3 s.Columns)] O O O .scf ⟨.all id,G⟩ (fun hc=>Qt (f:=G4.av) (xs:=s.Columns) H7 O O) ?_
 refine Ga (u:=BL (decide ((s.Columns.length:Int)≤column))) [(9,G0 column),(12,En s.Columns.length)] O O O .scf ⟨.all id,.all id,G⟩ (fun hc=>G29 O O O) ?_
 refine JLh (BL ((decide (column < 0))||(decide ((s.Columns.length:Int)≤column)))) (Rn O O O O) O (G8 (hK3 _ _ (Gn O (fun hb=>?_) (fun hb=>?_))))
 ·
  replace h:=Gz hb h
  refine G7 fun K4 hK4=>G2 (JLh (G0 (-1)) (G9 O O) O (G8 (hK4 _ _ (Gu (⟨[G0 (-1)],[],G,O,⟨⟨_,O,.conv (.same O)⟩,G⟩,O,congrArg (fun r:Int=>(G0 r:AV)) (Option.some.inj h)⟩)))))
 ·
  replace h:=Hv hb h
  refine Gp (hK2 _ _ ?_)
  refine G7 fun K5 hK5=>G2 (JLh (.dptr [E4 s.Covers,G0 s.Light.Kilos,G0 s.Light.X,G0 s.Light.Y,G0 s.Light.Z,E6 s.Rows,E5 s.Frames,E7 s.Tanks,G0 s.G3.Tolerance,G0 s.G3.Trim,G0 s.G3.List_,G0 s.G3.Stability]) (Gb Jz O O O) O (JLh (E4 s.Covers) (Gh Qh O O O) O (JLh (.fn 254 [.dptr (Hb.cs s),.dptr [G0 column]]) (G30 (cs:=[.dptr (Hb.cs s),.dptr [G0 column]]) O O) O ?_)))
  obtain⟨r6,hr6,h⟩:=Gf h
  refine JLh (E1 r6) (Gq (args:=[E4 s.Covers,.fn 254 [.dptr (Hb.cs s),.dptr [G0 column]]]) O (H2c s.Covers (fun z0=>G12 z0 s column) 254 [.dptr (Hb.cs s),.dptr [G0 column]] Jc0 O (fun z0 q hq=>Hcb z0 s column q hq) r6 hr6) Jc1 ⟨O,O,O,O,G⟩) O (JLh (E1 r6) (G9 O O) O (G8 (hK5 _ _ ?_)))
  refine G7 (fun K7 hK7=>G7 fun K8 hK8=>G2 (JLh (E1 r6) (G5 O O) O (H3 (f:=G0) (xs:=r6) H0 O O (fun hm20=>?_) O O O)))
  refine JLh (BL (decide ((r6.length:Int)=0))) (Jx O O O) O (G8 (hK8 _ _ (Gn O (fun hb=>?_) (fun hb=>?_))))
  ·
   replace h:=Gz hb h
   refine G7 fun K9 hK9=>G2 (JLh (G0 (-1)) (G9 O O) O (G8 (hK9 _ _ (Gu (⟨[G0 (-1)],[],G,O,⟨⟨_,O,.conv (.same O)⟩,G⟩,O,congrArg (fun r:Int=>(G0 r:AV)) (Option.some.inj h)⟩)))))
  ·
   replace h:=Hv hb h
   refine Gp (hK7 _ _ (G7 fun K10 hK10=>G2 (JLh (E1 r6) (G5 O O) O ?_)))
   obtain⟨m12,y11,hm12,hy11,h⟩:=Y3 h
   refine JLh (.dptr [G0 y11]) (Gt (f:=G0) (xs:=r6) (y:=y11) O O O H0 hy11 hm12) O (JLh (G0 y11) (Gh Gd O O O) O (JLh (G0 y11) (G9 O O) O (G8 (hK10 _ _ (Gu (⟨[G0 y11],[],G,O,⟨⟨_,O,.conv (.same O)⟩,G⟩,O,congrArg (fun r:Int=>(G0 r:AV)) (Option.some.inj h)⟩))))))

def Gba (a:Slot) (b:Slot):Option Bool:=
 bnd (bif ((decide (a.G4=b.G4))&&(decide (b.Tier < a.Tier))) then G4e a.Half b.Half else some default) fun r3=>
 some (((decide (a.G4=b.G4))&&(decide (b.Tier < a.Tier)))&&r3)
theorem M_slot_Over_w (a:Slot) (b:Slot) (r:Bool) (h:Gba a b=some r):Pure Tryz.prog 171 [.agg [G0 a.G4,G0 a.Tier,U8 a.Half],.agg [G0 b.G4,G0 b.Tier,U8 b.Half]] (·=BL r):=by
 unfold Gba at h
 refine H1 [.tmp 4] Tryz.func171 O O (G7 fun K1 hK1=>G2 (JLh (.ptr 1117 0) (Jy (u:=.agg [G0 a.G4,G0 a.Tier,U8 a.Half]) (cs:=[G0 a.G4,G0 a.Tier,U8 a.Half]) 1117 O O O O O) O (JLh (.ptr 1118 0) (Jy (u:=.agg [G0 b.G4,G0 b.Tier,U8 b.Half]) (cs:=[G0 b.G4,G0 b.Tier,U8 b.Half]) 1118 O O O O O) O (JLh (BL false) (G9 O O) O (G8 (hK1 _ _ (Gx [(2,.dptr [G0 a.G4,G0 a.Tier,U8 a.Half]),(3,.ptr 1118 0)] [(1118,.box 119 [G0 b.G4,G0 b.Tier,U8 b.Half])] 1117 rfl rfl rfl ⟨⟨_,rfl,.boxEq rfl rfl⟩,G⟩ rfl (by exact⟨.ptr,.conv (.same rfl),G⟩) (Gx [(2,.dptr [G0 a.G4,G0 a.Tier,U8 a.Half]),(3,.dptr [G0 b.G4,G0 b.Tier,U8 b.Half])] [] 1118 rfl rfl rfl G rfl (by exact⟨.conv (.same rfl),.ptr,G⟩) ?_))))))))
 refine G7 fun K2 hK2=>G2 (JLh (.dptr [G0 a.G4,G0 a.Tier,U8 a.Half]) (Gb J0 O O O) O (JLh (G0 a.G4) (Gh Gd O O O) O (JLh (.dptr [G0 b.G4,G0 b.Tier,U8 b.Half]) (Gb J0 O O O) O (JLh (G0 b.G4) (Gh Gd O O O) O (JLh (BL (decide (a.G4=b.G4))) (Jx O O O) O (JLh (BL (decide (a.G4=b.G4))) (G5 O O) O (Ga (u:=.dptr [G0 a.Tier,U8 a.Half]) [] O O O .sct G (fun hc=>Gb Q2 O O O) ?_)))))))
 refine Ga (u:=G0 a.Tier) [(11,.dptr [G0 a.Tier,U8 a.Half])] O O O .sct ⟨.all id,G⟩ (fun hc=>Gh Gd O O O) ?_
 refine Ga (u:=.dptr [G0 b.Tier,U8 b.Half]) [] O O O .sct G (fun hc=>Gb Q2 O O O) ?_
 refine Ga (u:=G0 b.Tier) [(13,.dptr [G0 b.Tier,U8 b.Half])] O O O .sct ⟨.all id,G⟩ (fun hc=>Gh Gd O O O) ?_
 refine Ga (u:=BL (decide (b.Tier < a.Tier))) [(12,G0 a.Tier),(14,G0 b.Tier)] O O O .sct ⟨.all id,.all id,G⟩ (fun hc=>G31 O O O) ?_
 refine JLh (BL ((decide (a.G4=b.G4))&&(decide (b.Tier < a.Tier)))) (Hx O O O O) O (JLh (BL ((decide (a.G4=b.G4))&&(decide (b.Tier < a.Tier)))) (G5 O O) O (Ga (u:=.dptr [U8 a.Half]) [] O O O .sct G (fun hc=>Gb Jd O O O) ?_))
 refine Ga (u:=U8 a.Half) [(18,.dptr [U8 a.Half])] O O O .sct ⟨.all id,G⟩ (fun hc=>Gh Jn O O O) ?_
 refine Ga (u:=.dptr [U8 b.Half]) [] O O O .sct G (fun hc=>Gb Jd O O O) ?_
 refine Ga (u:=U8 b.Half) [(20,.dptr [U8 b.Half])] O O O .sct ⟨.all id,G⟩ (fun hc=>Gh Jn O O O) ?_
 obtain⟨r3,hr3,h⟩:=Gf h
 refine Ga (u:=BL r3) [(19,U8 a.Half),(21,U8 b.Half)] O O O .sct ⟨.all id,.all id,G⟩ (fun hc=>Gq (args:=[U8 a.Half,U8 b.Half]) O (H64 a.Half b.Half r3 (Gz hc hr3)) J1c ⟨O,O,O,O,G⟩) ?_
 refine JLh (BL (((decide (a.G4=b.G4))&&(decide (b.Tier < a.Tier)))&&r3)) (Hx O O O O) O (JLh (BL (((decide (a.G4=b.G4))&&(decide (b.Tier < a.Tier)))&&r3)) (G9 O O) O (G8 (hK2 _ _ (Gu (⟨[BL (((decide (a.G4=b.G4))&&(decide (b.Tier < a.Tier)))&&r3)],[],G,O,⟨⟨_,O,.conv (.same O)⟩,G⟩,O,congrArg (fun r:Bool=>(BL r:AV)) (Option.some.inj h)⟩)))))

def G19 (m:Hu Int Unit) (k:Int):Option (Bool×(Hu Int Unit)):=
 bif (Hu.has m k) then
 (some (false,m))
 else
 (some (true,(Hu.put m k ())))
theorem Gbd (m:Hu Int Unit) (k:Int) (r:Bool×(Hu Int Unit)) (h:G19 m k=some r):Ym Tryz.prog 169 [.mp 1068,G0 k] [(1068,MP 256 (fun n:Int=>Value.int .i64 n) (fun _:Unit=>.agg []) m)] (fun av L'=>av=BL r.1∧L'=[(1068,MP 256 (fun n:Int=>Value.int .i64 n) (fun _:Unit=>.agg []) r.2)]):=by
 unfold G19 at h
 refine H00 [1068] [.tmp 4] Tryz.func169 O O (inAll O) (G7 fun K1 hK1=>G2 (JLh (BL false) (G9 O O) O (G8 (hK1 _ _ (G7 (fun K2 hK2=>G7 fun K3 hK3=>G2 (JLh (.mp 1068) (G5 O O) O (JLh (G0 k) (G5 O O) O (JLh (.tup [.agg [],BL (Hu.has m k)]) (Q19 (av:=(fun _:Unit=>.agg [])) (m:=m) (a:=k) () (.agg #[]) O O O O tk_3 J59 tf_zv_326 O) O (JLh (.tup [.agg [],BL (Hu.has m k)]) (G5 O O) O (JLh (.agg []) (J1 O O O) O (JLh (BL (Hu.has m k)) (J1 O O O) O (JLh (.ptr 1114 0) (Jb 1114 0 Ja7 O O) O (J4 (u:=.junk) (A_store0 (u:=.agg []) Jb5 O O O O O O) (JLh (BL (Hu.has m k)) (G9 O O) O (G8 (hK3 _ _ ?_)))))))))))))))))
 refine Gx [(0,.mp 1068),(1,G0 k),(6,BL (Hu.has m k))] [(1068,MP 256 (fun n:Int=>Value.int .i64 n) (fun _:Unit=>.agg []) m)] 1114 rfl rfl rfl ⟨⟨_,rfl,.map⟩,G⟩ rfl (by exact⟨.conv (.same rfl),.conv (.same rfl),.conv (.same rfl),G⟩) (G7 fun K5 hK5=>G2 (JLh (BL (Hu.has m k)) (G5 O O) O (G8 (hK5 _ _ (Gn O (fun hb=>?_) (fun hb=>?_))))))
 ·
  replace h:=Gz hb h
  refine G7 fun K6 hK6=>G2 (JLh (BL false) (G9 O O) O (G8 (hK6 _ _ (Gu ?_))))
  obtain rfl:=Option.some.inj h
  exact⟨[BL false],[(1068,MP 256 (fun n:Int=>Value.int .i64 n) (fun _:Unit=>.agg []) m)],⟨⟨_,O,.map⟩,G⟩,O,⟨⟨_,O,.conv (.same O)⟩,G⟩,O,O⟩
 ·
  replace h:=Hv hb h
  refine Gp (hK2 _ _ (G7 fun K7 hK7=>G2 (JLh (.mp 1068) (G5 O O) O (JLh (G0 k) (G5 O O) O (JLh (.agg []) (Jv (cs:=[]) [] [] [] J9d Jb3 G O O) O (J4 (u:=.junk) (Jaf (m:=m) (a:=k) (v:=()) O O O O O O tk_3 J59) (G8 (hK7 _ _ (G7 fun K8 hK8=>G2 (JLh (BL true) (G9 O O) O (G8 (hK8 _ _ (Gu ?_)))))))))))))
  obtain rfl:=Option.some.inj h
  exact⟨[BL true],[(1068,MP 256 (fun n:Int=>Value.int .i64 n) (fun _:Unit=>.agg []) (Hu.put m k ()))],⟨⟨_,O,.map⟩,G⟩,O,⟨⟨_,O,.conv (.same O)⟩,G⟩,O,O⟩
end
end Go.Proofs.YtfkilljboodoaaaGreat
