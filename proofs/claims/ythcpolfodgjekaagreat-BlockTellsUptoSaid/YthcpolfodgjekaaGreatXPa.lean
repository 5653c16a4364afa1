/-
 Models of functions of the program,and that they return what the models say.
-/
import Derived.Test.YthcpolfodgjekaaGreatSpecP
set_option maxRecDepth 100000
set_option maxHeartbeats 1000000
set_option linter.unusedVariables false
set_option linter.unusedSimpArgs false
namespace Go.Proofs.YthcpolfodgjekaaGreat
open Go.RowKit
noncomputable section

namespace XPF
open XAF
open XLF
open XCF
open XGF
open XHF
theorem H8e:Ha Ej 10=true:=by kernel_rfl
theorem Q72:Ha Ej 104=true:=by kernel_rfl
theorem J92:Ha Ej 109=true:=by kernel_rfl
theorem Qb5:Ha Ej 11=true:=by kernel_rfl
theorem Je2:Ha Ej 12=true:=by kernel_rfl
theorem Z7:Ha Ej 122=true:=by kernel_rfl
theorem Q6a:Ha Ej 123=true:=by kernel_rfl
theorem J8d:Ha Ej 124=true:=by kernel_rfl
theorem H55:Ha Ej 125=true:=by kernel_rfl
theorem J8c:Ha Ej 126=true:=by kernel_rfl
theorem J8b:Ha Ej 127=true:=by kernel_rfl
theorem Qb4:Ha Ej 13=true:=by kernel_rfl
theorem Je1:Ha Ej 14=true:=by kernel_rfl
theorem Qb3:Ha Ej 15=true:=by kernel_rfl
theorem Qb2:Ha Ej 17=true:=by kernel_rfl
theorem Qb1:Ha Ej 18=true:=by kernel_rfl
theorem Qb0:Ha Ej 19=true:=by kernel_rfl
theorem Qaf:Ha Ej 20=true:=by kernel_rfl
theorem Qae:Ha Ej 22=true:=by kernel_rfl
theorem Qad:Ha Ej 23=true:=by kernel_rfl
theorem H24:Ha Ej 24=true:=by kernel_rfl
theorem Jde:Ha Ej 33=true:=by kernel_rfl
theorem Jdd:Ha Ej 34=true:=by kernel_rfl
theorem H8d:Ha Ej 35=true:=by kernel_rfl
theorem J1d:Ha Ej 36=true:=by kernel_rfl
theorem Jdc:Ha Ej 37=true:=by kernel_rfl
theorem Gdb:Ha Ej 41=true:=by kernel_rfl
theorem Jda:Ha Ej 42=true:=by kernel_rfl
theorem tf_call_5:Ha Ej 5=true:=by kernel_rfl
theorem Qa1:Ha Ej 50=true:=by kernel_rfl
theorem J1b:Ha Ej 51=true:=by kernel_rfl
theorem Q35:Ha Ej 6=true:=by kernel_rfl
theorem tf_call_7:Ha Ej 7=true:=by kernel_rfl
theorem Q9c:Ha Ej 70=true:=by kernel_rfl
theorem Q9b:Ha Ej 71=true:=by kernel_rfl
theorem Q9a:Ha Ej 73=true:=by kernel_rfl
theorem Q99:Ha Ej 74=true:=by kernel_rfl
theorem Q98:Ha Ej 75=true:=by kernel_rfl
theorem Q97:Ha Ej 76=true:=by kernel_rfl
theorem Q96:Ha Ej 77=true:=by kernel_rfl
theorem Q95:Ha Ej 78=true:=by kernel_rfl
theorem Q94:Ha Ej 79=true:=by kernel_rfl
theorem tf_call_8:Ha Ej 8=true:=by kernel_rfl
theorem Q91:Ha Ej 88=true:=by kernel_rfl
theorem Q90:Ha Ej 89=true:=by kernel_rfl
theorem tf_call_9:Ha Ej 9=true:=by kernel_rfl
theorem Q8f:Ha Ej 90=true:=by kernel_rfl
theorem tf_elem_4:Z5 Ej 4 1 1=true:=by kernel_rfl
theorem tf_int_5:J48 Ej 5 .u8=true:=by kernel_rfl
theorem Q41:placesOf Ej 32=some [(0,1),(1,1),(2,4),(6,1),(7,1),(8,1),(9,4)]:=by kernel_rfl
theorem J61:Ys Ej 3 1=true:=by kernel_rfl
theorem Q31:Ys Ej 4 1=true:=by kernel_rfl
theorem G90:sliceB Ej 139 4 1=true:=by kernel_rfl
theorem tf_zero_4:(Ej.info? 4).bind (fun i=>i.zero.map Value.cells)=some (List.toArray [.bool false]):=by kernel_rfl
theorem J82:Zj Ej 32 13=true:=by kernel_rfl
end XPF
open XAF
open XLF
open XCF
open XGF
open XHF
open XPF

def G18 (s:H2) (boxes:List Gg) (l:List Stowed):Option Bool:=
 bif ((((decide (12 < (s.Columns.length:Int)))||(decide (12 < (s.Covers.length:Int))))||(decide (30 < (boxes.length:Int))))||(decide (14 < (l.length:Int)))) then
 (some false)
 else
 (each (fun y21 i21 (s21:Unit) nx21=>
   bif ((decide (12 < (y21.Plugs.length:Int)))||(decide (10 < y21.Tiers))) then
   (some false)
   else
   (nx21 ()))
  (fun(s21:Unit)=>
   each (fun y44 i44 (s44:Unit) nx44=>
    bif decide (12 < (y44.Rows.length:Int)) then
    (some false)
    else
    (nx44 ()))
   (fun(s44:Unit)=>
    some true) s.Covers 0 ()) s.Columns 0 ())
abbrev Ew (s:H2):List AV:=[E5 s.Covers,G0 s.Light.Kilos,G0 s.Light.X,G0 s.Light.Y,G0 s.Light.Z,E7 s.Rows,E6 s.Frames,E8 s.Tanks,G0 s.G2.Tolerance,G0 s.G2.Trim,G0 s.G2.List_,G0 s.G2.Stability]
theorem Ha1 (s:H2) (boxes:List Gg) (l:List Stowed) (r:Bool) (h:G18 s boxes l=some r):Pure Ej 5 [.agg (H2.cs s),E3 boxes,E2 l] (·=BL r):=by
 unfold G18 at h
 refine Gx [.tmp 6] Tryz.func5 O O (Jr fun hK1=>(JLh (.ptr 1003 0) (Ja (cs:=(H2.cs s)) 1003 O O O O O) O (G57 (BL false) O (G8 (hK1 (Gu [(1,E3 boxes),(2,E2 l),(3,Eb s)] [] 1003 rfl rfl rfl G rfl (by exact⟨.conv (.same rfl),.conv (.same rfl),.ptr,G⟩) (Js fun hK2=>?_)))))))
 refine Jr fun hK3=>(JLh (Eb s) (Ga Hj O O O) O (JLh (E4 s.Columns) (Gf Ht O O O) O (JLl H5 O O O fun hm13=>(JLh (BL (decide (12 < (s.Columns.length:Int)))) (G3d O O O) O (G57 (BL (decide (12 < (s.Columns.length:Int)))) O (JLo (.dptr (Ew s)) [] O .scf G (fun hc=>Ga Jk O O O) O (JLo (E5 s.Covers) [16] O .scf ⟨Ua,G⟩ (fun hc=>Gf Q4 O O O) O (JLo (Ei s.Covers.length) [17] O .scf ⟨Ua,G⟩ (fun hc=>Qw (f:=G9.av) (xs:=s.Covers) Hr O O) O (JLo (BL (decide (12 < (s.Covers.length:Int)))) [18] O .scf ⟨Ua,G⟩ (fun hc=>G3d O O O) O (JLh (BL ((decide (12 < (s.Columns.length:Int)))||(decide (12 < (s.Covers.length:Int))))) (Yc O O O O) O (G57 (BL ((decide (12 < (s.Columns.length:Int)))||(decide (12 < (s.Covers.length:Int))))) O (JLo (E3 boxes) [] O .scf G (fun hc=>G5 O O) O (JLo (Ei boxes.length) [22] O .scf ⟨Ua,G⟩ (fun hc=>Qw (f:=Gg.av) (xs:=boxes) Jv O O) O ?_)))))))))))))
 refine JLo (BL (decide (30 < (boxes.length:Int)))) [23] O .scf ⟨Ua,G⟩ (fun hc=>G3d O O O) O (JLh (BL (((decide (12 < (s.Columns.length:Int)))||(decide (12 < (s.Covers.length:Int))))||(decide (30 < (boxes.length:Int))))) (Yc O O O O) O (G57 (BL (((decide (12 < (s.Columns.length:Int)))||(decide (12 < (s.Covers.length:Int))))||(decide (30 < (boxes.length:Int))))) O (JLo (E2 l) [] O .scf G (fun hc=>G5 O O) O (JLo (Ei l.length) [27] O .scf ⟨Ua,G⟩ (fun hc=>Qw (f:=Stowed.av) (xs:=l) H0 O O) O (JLo (BL (decide (14 < (l.length:Int)))) [28] O .scf ⟨Ua,G⟩ (fun hc=>G3d O O O) O (JLh (BL ((((decide (12 < (s.Columns.length:Int)))||(decide (12 < (s.Covers.length:Int))))||(decide (30 < (boxes.length:Int))))||(decide (14 < (l.length:Int))))) (Yc O O O O) O (G8 (hK3 ?_))))))))
 refine JCc O h ?_ ?_<;>intro h hb
 ·
  refine Jr fun hK4=>(G57 (BL false) O (G8 (hK4 (Gr (fin1 BL h)))))
 ·
  refine Gn (hK2 (Js fun hK5=>Jr fun hK6=>(JLh (Eb s) (Ga Hj O O O) O (JLh (E4 s.Columns) (Gf Ht O O O) O (JLl H5 O O O fun hm33=>(G57 (G0 0) O (G8 (hK6 (Gp ?_)))))))))
  obtain⟨b21,kx21,hb21,hkx21,h⟩:=Hx h
  refine He (fun i21 (s21:Unit)=>each b21 kx21 (List.drop i21 s.Columns) i21 s21=some r) (fun i21 s21=>[(3,Eb s),(32,E4 s.Columns),(33,Ei s.Columns.length),(34,Ei i21)]) (fun i21 s21=>[]) (fun i21=>s.Columns.length - i21) 0 () h ⟨(.sm O O),G,rfl⟩ ?_
  clear h
  intro i21 s21 hi21 K21 e21
  refine Jr fun hK22=>(JLh (BL (decide ((i21:Int) < (s.Columns.length:Int)))) (J1 O O O) O (G8 (hK22 (Js fun hK23=>Gm O (fun hb=>?_) (fun hb=>?_)))))
  ·
   have hk21:=Jc hb
   obtain⟨y21,nx21,hy21,hn21,h⟩:=Hm hi21 hk21
   replace h:=Rn hb21 h
   refine Gn (hK23 (Js fun hK24=>Gp (Jr fun hK25=>(JLh (Ed y21) (Gw (f:=G4.av) (xs:=s.Columns) (y:=y21) O O O H5 hy21 O) O (JLh (.agg (G4.cs y21)) (Gj Rq O O O) O (JLh (.ptr 1004 0) (Ju 1004 12 G66 O O) O (Jf (u:=.junk) (J2 (u:=.agg (G4.cs y21)) (ds:=(G4.cs y21)) Gb5 O O O O O O O O) (G8 (hK25 ?_)))))))))
   refine Gu [(3,Eb s),(8,Ed y21),(32,E4 s.Columns),(33,Ei s.Columns.length),(34,Ei i21)] [] 1004 rfl rfl rfl G rfl (by repeat' (first | exact .ptr | constructor)) ?_
   refine Jr fun hK26=>(JLh (.dptr ((G4.cs y21).drop 8)) (Ga R9 O O O) O (JLh (E1 y21.Plugs) (Gf Hy O O O) O (JLl Gq O O O fun hm40=>(JLh (BL (decide (12 < (y21.Plugs.length:Int)))) (G3d O O O) O (G57 (BL (decide (12 < (y21.Plugs.length:Int)))) O (JLo (.dptr ((G4.cs y21).drop 3)) [] O .scf G (fun hc=>Ga Zm O O O) O (JLo (G0 y21.Tiers) [43] O .scf ⟨Ua,G⟩ (fun hc=>Gf Gc O O O) O (JLo (BL (decide (10 < y21.Tiers))) [44] O .scf ⟨Ua,G⟩ (fun hc=>G3d O O O) O (JLh (BL ((decide (12 < (y21.Plugs.length:Int)))||(decide (10 < y21.Tiers)))) (Yc O O O O) O (G8 (hK26 (JCc O h (fun h hb=>?_) (fun h hb=>?_)))))))))))))
   ·
    refine Jr fun hK27=>(G57 (BL false) O (G8 (hK27 (Gr (fin1 BL h)))))
   ·
    refine Gn (hK24 (G3 (JLh (G0 ((i21+1:Nat):Int)) (Hu (Hc hk21 hm33) O O O) O (G57 (G0 ((i21+1:Nat):Int)) O (G8 (e21 _ _ (i21+1) () (app1 hn21 h) (by omega) ⟨(.sm O O),G,rfl⟩))))))
  ·
   have h:=app1 hkx21 (Hn hi21 (H6 hb))
   refine Hk (hK5 (Js fun hK28=>Jr fun hK29=>(JLh (.dptr (Ew s)) (Ga Jk O O O) O (JLh (E5 s.Covers) (Gf Q4 O O O) O (JLl Hr O O O fun hm50=>(G57 (G0 0) O (G8 (hK29 (Gp ?_)))))))))
   obtain⟨b44,kx44,hb44,hkx44,h⟩:=Hx h
   refine He (fun i44 (s44:Unit)=>each b44 kx44 (List.drop i44 s.Covers) i44 s44=some r) (fun i44 s44=>[(49,E5 s.Covers),(50,Ei s.Covers.length),(51,Ei i44)]) (fun i44 s44=>[]) (fun i44=>s.Covers.length - i44) 0 () h ⟨(.sm O O),G,O⟩ ?_
   clear h
   intro i44 s44 hi44 K44 e44
   refine Jr fun hK45=>(JLh (BL (decide ((i44:Int) < (s.Covers.length:Int)))) (J1 O O O) O (G8 (hK45 (Js fun hK46=>Gm O (fun hb=>?_) (fun hb=>?_)))))
   ·
    have hk44:=Jc hb
    obtain⟨y44,nx44,hy44,hn44,h⟩:=Hm hi44 hk44
    replace h:=Rn hb44 h
    refine Gn (hK46 (Js fun hK47=>Gp (Jr fun hK48=>(JLh (.dptr [G0 y44.Bay,E1 y44.Rows]) (Gw (f:=G9.av) (xs:=s.Covers) (y:=y44) O O O Hr hy44 O) O (JLh (.agg [G0 y44.Bay,E1 y44.Rows]) (Gj Ye O O O) O (JLh (.ptr 1005 0) (Ju 1005 2 G65 O O) O (Jf (u:=.junk) (J2 (u:=.agg [G0 y44.Bay,E1 y44.Rows]) (ds:=[G0 y44.Bay,E1 y44.Rows]) Gb4 O O O O O O O O) (G8 (hK48 (Gu [(10,.dptr [G0 y44.Bay,E1 y44.Rows]),(49,E5 s.Covers),(50,Ei s.Covers.length),(51,Ei i44)] [] 1005 rfl rfl rfl G rfl (by repeat' (first | exact .ptr | constructor)) ?_))))))))))
    refine Jr fun hK49=>(JLh (.dptr [E1 y44.Rows]) (Ga Q8 O O O) O (JLh (E1 y44.Rows) (Gf Hy O O O) O (JLl Gq O O O fun hm57=>(JLh (BL (decide (12 < (y44.Rows.length:Int)))) (G3d O O O) O (G8 (hK49 (JCc O h (fun h hb=>?_) (fun h hb=>?_))))))))
    ·
     refine Jr fun hK50=>(G57 (BL false) O (G8 (hK50 (Gr (fin1 BL h)))))
    ·
     refine Gn (hK47 (G3 (JLh (G0 ((i44+1:Nat):Int)) (Hu (Hc hk44 hm50) O O O) O (G57 (G0 ((i44+1:Nat):Int)) O (G8 (e44 _ _ (i44+1) () (app1 hn44 h) (by omega) ⟨(.sm O O),G,rfl⟩))))))
   ·
    have h:=app1 hkx44 (Hn hi44 (H6 hb))
    refine Hk (hK28 (Jr fun hK51=>(G57 (BL true) O (G8 (hK51 (Gr (fin1 BL h)))))))

def G53 :Option H2:=
 some (H2.mk ([(G4.mk 0 0 false 2 0 0 0 0 [] 0 0 0),(G4.mk 0 1 false 2 0 0 0 0 [] 0 0 0),(G4.mk 0 0 true 3 0 0 0 0 [] 0 0 0),(G4.mk 0 1 true 3 0 0 0 0 [] 0 0 0),(G4.mk 1 1 true 4 0 0 0 0 [] 0 0 0)]) ([(G9.mk 0 [0,1])]) (Light.mk 0 0 0 0) [] [] [] (G2.mk 0 0 0 0))
abbrev Ex:List AV:=[E4 ([]:List G4),E5 ([]:List G9),G0 0,G0 0,G0 0,G0 0,E7 ([]:List Row),E6 ([]:List Frame),E8 ([]:List Gh),G0 0,G0 0,G0 0,G0 0]
theorem H38  (r:H2) (h:G53 =some r):Pure Ej 23 [] (·=.agg (H2.cs r)):=by
 unfold G53 at h
 refine Gx [.cell 0 32] Tryz.func23 O O (Jr fun hK1=>(JLh (.ptr 1038 0) (G1d 1038 Ex [.slice none 0 0,.slice none 0 0,E0,E0,E0,E0,.slice none 0 0,.slice none 0 0,.slice none 0 0,E0,E0,E0,E0] J0d ⟨.inr ⟨_,O,O⟩,.inr ⟨_,O,O⟩,.inl O,.inl O,.inl O,.inl O,.inr ⟨_,O,O⟩,.inr ⟨_,O,O⟩,.inr ⟨_,O,O⟩,.inl O,.inl O,.inl O,.inl O,G⟩ O O) O (G8 (hK1 ?_))))
 refine Jr fun hK2=>(JLh (.agg [G0 0,G0 0,BL false,G0 2,G0 0,G0 0,G0 0,G0 0,E1 ([]:List Int),G0 0,G0 0,G0 0]) (Jj (cs:=[G0 0,G0 0,BL false,G0 2,G0 0,G0 0,G0 0,G0 0,E1 ([]:List Int),G0 0,G0 0,G0 0]) [(0,1),(1,1),(2,1),(3,1),(4,1),(5,1),(6,1),(7,1),(8,1),(9,1),(10,1),(11,1)] [G0 0,G0 0,BL false,G0 0,G0 0,G0 0,G0 0,G0 0,E1 ([]:List Int),G0 0,G0 0,G0 0] [E0,E0,.bool false,E0,E0,E0,E0,E0,.slice none 0 0,E0,E0,E0] G92 G80 ⟨.inl O,.inl O,.inl O,.inl O,.inl O,.inl O,.inl O,.inl O,.inr ⟨_,O,O⟩,.inl O,.inl O,.inl O,G⟩ O O) O (JLh (.agg [G0 0,G0 1,BL false,G0 2,G0 0,G0 0,G0 0,G0 0,E1 ([]:List Int),G0 0,G0 0,G0 0]) (Jj (cs:=[G0 0,G0 1,BL false,G0 2,G0 0,G0 0,G0 0,G0 0,E1 ([]:List Int),G0 0,G0 0,G0 0]) [(0,1),(1,1),(2,1),(3,1),(4,1),(5,1),(6,1),(7,1),(8,1),(9,1),(10,1),(11,1)] [G0 0,G0 0,BL false,G0 0,G0 0,G0 0,G0 0,G0 0,E1 ([]:List Int),G0 0,G0 0,G0 0] [E0,E0,.bool false,E0,E0,E0,E0,E0,.slice none 0 0,E0,E0,E0] G92 G80 ⟨.inl O,.inl O,.inl O,.inl O,.inl O,.inl O,.inl O,.inl O,.inr ⟨_,O,O⟩,.inl O,.inl O,.inl O,G⟩ O O) O (JLh (.agg [G0 0,G0 0,BL true,G0 3,G0 0,G0 0,G0 0,G0 0,E1 ([]:List Int),G0 0,G0 0,G0 0]) (Jj (cs:=[G0 0,G0 0,BL true,G0 3,G0 0,G0 0,G0 0,G0 0,E1 ([]:List Int),G0 0,G0 0,G0 0]) [(0,1),(1,1),(2,1),(3,1),(4,1),(5,1),(6,1),(7,1),(8,1),(9,1),(10,1),(11,1)] [G0 0,G0 0,BL false,G0 0,G0 0,G0 0,G0 0,G0 0,E1 ([]:List Int),G0 0,G0 0,G0 0] [E0,E0,.bool false,E0,E0,E0,E0,E0,.slice none 0 0,E0,E0,E0] G92 G80 ⟨.inl O,.inl O,.inl O,.inl O,.inl O,.inl O,.inl O,.inl O,.inr ⟨_,O,O⟩,.inl O,.inl O,.inl O,G⟩ O O) O (JLh (.agg [G0 0,G0 1,BL true,G0 3,G0 0,G0 0,G0 0,G0 0,E1 ([]:List Int),G0 0,G0 0,G0 0]) (Jj (cs:=[G0 0,G0 1,BL true,G0 3,G0 0,G0 0,G0 0,G0 0,E1 ([]:List Int),G0 0,G0 0,G0 0]) [(0,1),(1,1),(2,1),(3,1),(4,1),(5,1),(6,1),(7,1),(8,1),(9,1),(10,1),(11,1)] [G0 0,G0 0,BL false,G0 0,G0 0,G0 0,G0 0,G0 0,E1 ([]:List Int),G0 0,G0 0,G0 0] [E0,E0,.bool false,E0,E0,E0,E0,E0,.slice none 0 0,E0,E0,E0] G92 G80 ⟨.inl O,.inl O,.inl O,.inl O,.inl O,.inl O,.inl O,.inl O,.inr ⟨_,O,O⟩,.inl O,.inl O,.inl O,G⟩ O O) O (JLh (.agg [G0 1,G0 1,BL true,G0 4,G0 0,G0 0,G0 0,G0 0,E1 ([]:List Int),G0 0,G0 0,G0 0]) (Jj (cs:=[G0 1,G0 1,BL true,G0 4,G0 0,G0 0,G0 0,G0 0,E1 ([]:List Int),G0 0,G0 0,G0 0]) [(0,1),(1,1),(2,1),(3,1),(4,1),(5,1),(6,1),(7,1),(8,1),(9,1),(10,1),(11,1)] [G0 0,G0 0,BL false,G0 0,G0 0,G0 0,G0 0,G0 0,E1 ([]:List Int),G0 0,G0 0,G0 0] [E0,E0,.bool false,E0,E0,E0,E0,E0,.slice none 0 0,E0,E0,E0] G92 G80 ⟨.inl O,.inl O,.inl O,.inl O,.inl O,.inl O,.inl O,.inl O,.inr ⟨_,O,O⟩,.inl O,.inl O,.inl O,G⟩ O O) O (JLh (E4 ([(G4.mk 0 0 false 2 0 0 0 0 [] 0 0 0),(G4.mk 0 1 false 2 0 0 0 0 [] 0 0 0),(G4.mk 0 0 true 3 0 0 0 0 [] 0 0 0),(G4.mk 0 1 true 3 0 0 0 0 [] 0 0 0),(G4.mk 1 1 true 4 0 0 0 0 [] 0 0 0)])) (Hd (xs:=[.agg [G0 0,G0 0,BL false,G0 2,G0 0,G0 0,G0 0,G0 0,E1 ([]:List Int),G0 0,G0 0,G0 0],.agg [G0 0,G0 1,BL false,G0 2,G0 0,G0 0,G0 0,G0 0,E1 ([]:List Int),G0 0,G0 0,G0 0],.agg [G0 0,G0 0,BL true,G0 3,G0 0,G0 0,G0 0,G0 0,E1 ([]:List Int),G0 0,G0 0,G0 0],.agg [G0 0,G0 1,BL true,G0 3,G0 0,G0 0,G0 0,G0 0,E1 ([]:List Int),G0 0,G0 0,G0 0],.agg [G0 1,G0 1,BL true,G0 4,G0 0,G0 0,G0 0,G0 0,E1 ([]:List Int),G0 0,G0 0,G0 0]]) O ⟨O,O,O,O,O,O,O,O,O,O,G⟩ H5 G66 O O O O) O (JLh (E1 [0,1]) (Hd (xs:=[G0 0,G0 1]) O ⟨O,O,O,O,G⟩ Gq Q1 O O O O) O (JLh (.agg [G0 0,E1 [0,1]]) (Jj (cs:=[G0 0,E1 [0,1]]) [(0,1),(1,1)] [G0 0,E1 ([]:List Int)] [E0,.slice none 0 0] J37 H86 ⟨.inl O,.inr ⟨_,O,O⟩,G⟩ O O) O (JLh (E5 ([(G9.mk 0 [0,1])])) (Hd (xs:=[.agg [G0 0,E1 [0,1]]]) O ⟨O,O,G⟩ Hr G65 O O O O) O (JLh (.agg [E4 ([(G4.mk 0 0 false 2 0 0 0 0 [] 0 0 0),(G4.mk 0 1 false 2 0 0 0 0 [] 0 0 0),(G4.mk 0 0 true 3 0 0 0 0 [] 0 0 0),(G4.mk 0 1 true 3 0 0 0 0 [] 0 0 0),(G4.mk 1 1 true 4 0 0 0 0 [] 0 0 0)]),E5 ([(G9.mk 0 [0,1])]),G0 0,G0 0,G0 0,G0 0,E7 ([]:List Row),E6 ([]:List Frame),E8 ([]:List Gh),G0 0,G0 0,G0 0,G0 0]) (Jj (cs:=[E4 ([(G4.mk 0 0 false 2 0 0 0 0 [] 0 0 0),(G4.mk 0 1 false 2 0 0 0 0 [] 0 0 0),(G4.mk 0 0 true 3 0 0 0 0 [] 0 0 0),(G4.mk 0 1 true 3 0 0 0 0 [] 0 0 0),(G4.mk 1 1 true 4 0 0 0 0 [] 0 0 0)]),E5 ([(G9.mk 0 [0,1])]),G0 0,G0 0,G0 0,G0 0,E7 ([]:List Row),E6 ([]:List Frame),E8 ([]:List Gh),G0 0,G0 0,G0 0,G0 0]) [(0,1),(1,1),(2,4),(6,1),(7,1),(8,1),(9,4)] Ex [.slice none 0 0,.slice none 0 0,E0,E0,E0,E0,.slice none 0 0,.slice none 0 0,.slice none 0 0,E0,E0,E0,E0] Q41 J0d ⟨.inr ⟨_,O,O⟩,.inr ⟨_,O,O⟩,.inl O,.inl O,.inl O,.inl O,.inr ⟨_,O,O⟩,.inr ⟨_,O,O⟩,.inr ⟨_,O,O⟩,.inl O,.inl O,.inl O,.inl O,G⟩ O O) O (Jf (u:=.junk) (J2 (u:=.agg [E4 ([(G4.mk 0 0 false 2 0 0 0 0 [] 0 0 0),(G4.mk 0 1 false 2 0 0 0 0 [] 0 0 0),(G4.mk 0 0 true 3 0 0 0 0 [] 0 0 0),(G4.mk 0 1 true 3 0 0 0 0 [] 0 0 0),(G4.mk 1 1 true 4 0 0 0 0 [] 0 0 0)]),E5 ([(G9.mk 0 [0,1])]),G0 0,G0 0,G0 0,G0 0,E7 ([]:List Row),E6 ([]:List Frame),E8 ([]:List Gh),G0 0,G0 0,G0 0,G0 0]) (ds:=[E4 ([(G4.mk 0 0 false 2 0 0 0 0 [] 0 0 0),(G4.mk 0 1 false 2 0 0 0 0 [] 0 0 0),(G4.mk 0 0 true 3 0 0 0 0 [] 0 0 0),(G4.mk 0 1 true 3 0 0 0 0 [] 0 0 0),(G4.mk 1 1 true 4 0 0 0 0 [] 0 0 0)]),E5 ([(G9.mk 0 [0,1])]),G0 0,G0 0,G0 0,G0 0,E7 ([]:List Row),E6 ([]:List Frame),E8 ([]:List Gh),G0 0,G0 0,G0 0,G0 0]) H88 O O O O O O O O) (G8 (hK2 ?_)))))))))))))
 refine Gr (⟨[.agg [E4 ([(G4.mk 0 0 false 2 0 0 0 0 [] 0 0 0),(G4.mk 0 1 false 2 0 0 0 0 [] 0 0 0),(G4.mk 0 0 true 3 0 0 0 0 [] 0 0 0),(G4.mk 0 1 true 3 0 0 0 0 [] 0 0 0),(G4.mk 1 1 true 4 0 0 0 0 [] 0 0 0)]),E5 ([(G9.mk 0 [0,1])]),G0 0,G0 0,G0 0,G0 0,E7 ([]:List Row),E6 ([]:List Frame),E8 ([]:List Gh),G0 0,G0 0,G0 0,G0 0]],[],G,O,⟨⟨_,⟨_,_,_,_,O,O,O,.inl ⟨Hh,O⟩⟩,.conv (.same O)⟩,G⟩,O,congrArg (fun r:H2=>(.agg (H2.cs r):AV)) (Option.some.inj h)⟩)

def Yr (box:Int) (column:Int) (tier:Int) (half:Int):Option Stowed:=
 some (Stowed.mk box (Slot.mk column tier half))
theorem G04 (box:Int) (column:Int) (tier:Int) (half:Int) (r:Stowed) (h:Yr box column tier half=some r):Pure Ej 24 [G0 box,G0 column,G0 tier,U8 half] (·=.agg (Stowed.cs r)):=by
 unfold Yr at h
 refine Gx [.cell 8 73] Tryz.func24 O O (Jr fun hK1=>(JLh (.ptr 1039 0) (G1d 1039 [G0 0,G0 0,G0 0,U8 0] [E0,E0,E0,.int .u8 0] H1f ⟨.inl O,.inl O,.inl O,.inl O,G⟩ O O) O (G8 (hK1 ?_))))
 refine Jr fun hK2=>(G57 (G0 box) O (G57 (G0 column) O (G57 (G0 tier) O (G57 (U8 half) O (JLh (.agg [G0 column,G0 tier,U8 half]) (Jj (cs:=[G0 column,G0 tier,U8 half]) [(0,1),(1,1),(2,1)] [G0 0,G0 0,U8 0] [E0,E0,.int .u8 0] G91 Gda ⟨.inl O,.inl O,.inl O,G⟩ O O) O (JLh (.agg [G0 box,G0 column,G0 tier,U8 half]) (Jj (cs:=[G0 box,G0 column,G0 tier,U8 half]) [(0,1),(1,3)] [G0 0,G0 0,G0 0,U8 0] [E0,E0,E0,.int .u8 0] H8a H1f ⟨.inl O,.inl O,.inl O,.inl O,G⟩ O O) O (Jf (u:=.junk) (J2 (u:=.agg [G0 box,G0 column,G0 tier,U8 half]) (ds:=[G0 box,G0 column,G0 tier,U8 half]) G36 O O O O O O O O) (G8 (hK2 (Gr ?_))))))))))
 exact⟨[.agg [G0 box,G0 column,G0 tier,U8 half]],[],G,O,⟨⟨_,⟨_,_,_,_,O,O,O,.inl ⟨Z8,O⟩⟩,.conv (.same O)⟩,G⟩,O,congrArg (fun r:Stowed=>(.agg (Stowed.cs r):AV)) (Option.some.inj h)⟩

def G9a (x:Stowed) (p1:Int):Option Bool:=
 some (decide (x.Gg=p1))
theorem Q15 (x:Stowed) (p1:Int) (r:Bool) (h:G9a x p1=some r):Pure Ej 70 [.agg (Stowed.cs x),.dptr [G0 p1]] (·=BL r):=by
 unfold G9a at h
 refine Gx [.tmp 3] Tryz.func70 O O (Jr fun hK1=>(JLh (.ptr 1112 0) (Ja (cs:=[G0 x.Gg,G0 x.Slot.G4,G0 x.Slot.Tier,U8 x.Slot.Half]) 1112 O O O O O) O (G57 (BL false) O (G8 (hK1 (Gu [(1,.dptr [G0 p1]),(2,Ec x)] [] 1112 rfl rfl rfl G rfl (by exact⟨.conv (.same rfl),.ptr,G⟩) (Jr fun hK2=>(JLh (Ec x) (Ga Hw O O O) O (JLh (G0 x.Gg) (Gf Gc O O O) O (JLh (G0 p1) (Gf Gc O O O) O (JLh (BL (decide (x.Gg=p1))) (Jx O O O) O (G57 (BL (decide (x.Gg=p1))) O (G8 (hK2 (Gr (fin1 BL h))))))))))))))))

def Ge4 (l:List Stowed) (id_:Int):Option Bool:=
 bnd (R1 l (fun z0=>G9a z0 id_)) fun r3=>
 some r3
theorem J55 (l:List Stowed) (id_:Int) (r:Bool) (h:Ge4 l id_=some r):Pure Ej 33 [E2 l,G0 id_] (·=BL r):=by
 unfold Ge4 at h
 refine Gx [.tmp 4] Tryz.func33 O O (Jr fun hK1=>(JLh (.ptr 1054 0) (Ja (cs:=[G0 id_]) 1054 O O O O O) O (G57 (BL false) O (G8 (hK1 (Gu [(0,E2 l),(3,.dptr [G0 id_])] [] 1054 rfl rfl rfl G rfl (by exact⟨.conv (.same rfl),.ptr,G⟩) (Jr fun hK2=>(G57 (E2 l) O (JLh (.fn 70 [.dptr [G0 id_]]) (G23 (cs:=[.dptr [G0 id_]]) O O) O ?_)))))))))
 obtain⟨r3,hr3,h⟩:=Ge h
 refine JLh (BL r3) (Gk O (G3c l (fun z0=>G9a z0 id_) 70 [.dptr [G0 id_]] Q9c O (fun z0 q hq=>Q15 z0 id_ q hq) r3 hr3) Jcf ⟨O,O,O,O,G⟩) O (G57 (BL r3) O (G8 (hK2 (Gr (fin1 BL h)))))

def G4e (F:Nat) (other:Int) (p1:H2) (p2:List Gg) (p3:List Stowed) (p4:Int) (p5:Int):Option Bool:=
 bnd (Z3 F p1 p2 p3 [other]) fun r3=>
 bnd (Jp p2 other) fun r5=>
 bnd (bif decide (r5 < p4) then Ry r3.1 p5 else some default) fun r6=>
 some ((decide (r5 < p4))&&r6)
theorem Hfe (F:Nat) (other:Int) (p1:H2) (p2:List Gg) (p3:List Stowed) (p4:Int) (p5:Int) (r:Bool) (h:G4e F other p1 p2 p3 p4 p5=some r):Pure Ej 71 [G0 other,Eb p1,.dptr [E3 p2],.dptr [E2 p3],.dptr [G0 p4],.dptr [G0 p5]] (·=BL r):=by
 unfold G4e at h
 refine Gx [.tmp 7] Tryz.func71 O O (Jr fun hK1=>(G57 (BL false) O (G8 (hK1 (Jr fun hK2=>(JLh (.agg (H2.cs p1)) (Gj Hh O O O) O (JLh (E3 p2) (Gf G0c O O O) O (JLh (E2 p3) (Gf Rh O O O) O (G57 (G0 other) O (JLh (E1 [other]) (Hd (xs:=[G0 other]) O ⟨O,O,G⟩ Gq Q1 O O O O) O ?_))))))))))
 obtain⟨r3,hr3,h⟩:=Ge h
 refine JLh (.tup [E1 r3.1,G0 r3.2]) (Gk O (H33.down F p1 p2 p3 [other] r3 hr3) J1c ⟨O,O,O,O,O,O,O,O,G⟩) O (G57 (.tup [E1 r3.1,G0 r3.2]) O (JLh (E1 r3.1) (H9 O O O) O (JLh (G0 r3.2) (H9 O O O) O (G57 (E1 r3.1) O (G57 (G0 r3.2) O (G8 (hK2 (Js fun hK4=>?_))))))))
 obtain⟨r5,hr5,h⟩:=Ge h
 obtain⟨r6,hr6,h⟩:=Ge h
 refine JC_d0 Jg (by kernel_rfl) (Dq (E3 p2) (Gf G0c O O O) O (Dq (G0 other) (G5 O O) O (Dq (G0 r5) (Gk (args:=[E3 p2,G0 other]) O (Rw p2 other r5 hr5) G82 ⟨O,O,O,O,G⟩) O (Dq (G0 p4) (Gf Gc O O O) O (Dq (BL (decide (r5 < p4))) (J1 O O O) O (Dq (BL (decide (r5 < p4))) (G5 O O) O (Do (E1 r3.1) [] O .sct G (fun hc=>G5 O O) O (Do (G0 p5) [] O .sct G (fun hc=>Gf Gc O O O) O (Do (BL r6) [25,26] O .sct ⟨Ua,Ua,G⟩ (fun hc=>Gk (args:=[E1 r3.1,G0 p5]) O (G61 r3.1 p5 r6 (Gy hc hr6)) J1a ⟨O,O,O,O,G⟩) O (Dq (BL ((decide (r5 < p4))&&r6)) (J5 O O O O) O (Dq (BL ((decide (r5 < p4))&&r6)) (G7 O O) O (Dnil (hK4 (Gr (fin1 BL h)))))))))))))))

def G43 (F:Nat) (s:H2) (boxes:List Gg) (l:List Stowed) (id_:Int):Option (List Int):=
 bnd (Jp boxes id_) fun r3=>
 each (fun y24 i24 (s24:(List Int)) nx24=>
  jp (fun kj27=>
   bnd (bif decide (y24.Gg≠id_) then G4e F y24.Gg s boxes l r3 id_ else some default) fun r30=>
   bif ((decide (y24.Gg≠id_))&&r30) then
   (need (decide ((s24.length+[y24.Gg].length)*8≤140737488355328∧s24.length+[y24.Gg].length≤maxLen)) <|
    kj27 (s24++[y24.Gg]))
   else
   (kj27 s24)) fun(j27:(List Int))=>
  nx24 j27)
 (fun(s24:(List Int))=>
  some s24) l 0 []
theorem H5e (F:Nat) (s:H2) (boxes:List Gg) (l:List Stowed) (id_:Int) (r:(List Int)) (h:G43 F s boxes l id_=some r):Pure Ej 34 [.agg (H2.cs s),E3 boxes,E2 l,G0 id_] (·=E1 r):=by
 unfold G43 at h
 refine Gx [.tmp 8] Tryz.func34 O O (Jr fun hK1=>(JLh (.ptr 1055 0) (Ja (cs:=(H2.cs s)) 1055 O O O O O) O (JLh (.ptr 1056 0) (Ja (cs:=[E3 boxes]) 1056 O O O O O) O (JLh (.ptr 1057 0) (Ja (cs:=[E2 l]) 1057 O O O O O) O (JLh (.ptr 1058 0) (Ja (cs:=[G0 id_]) 1058 O O O O O) O (JLh (E1 ([]:List Int)) (Hb 1 O O) O (G8 (hK1 ?_))))))))
 refine Gu [(4,Eb s),(5,.ptr 1056 0),(6,.ptr 1057 0),(7,.ptr 1058 0)] [(1056,.box 33 [E3 boxes]),(1057,.box 34 [E2 l]),(1058,.box 3 [G0 id_])] 1055 rfl rfl rfl ⟨⟨_,rfl,.boxEq rfl rfl⟩,⟨_,rfl,.boxEq rfl rfl⟩,⟨_,rfl,.boxEq rfl rfl⟩,G⟩ rfl (by repeat' (first | exact .ptr | constructor)) ?_
 refine Gu [(4,Eb s),(5,.dptr [E3 boxes]),(6,.ptr 1057 0),(7,.ptr 1058 0)] [(1057,.box 34 [E2 l]),(1058,.box 3 [G0 id_])] 1056 rfl rfl rfl ⟨⟨_,rfl,.boxEq rfl rfl⟩,⟨_,rfl,.boxEq rfl rfl⟩,G⟩ rfl (by repeat' (first | exact .ptr | constructor)) ?_
 refine Gu [(4,Eb s),(5,.dptr [E3 boxes]),(6,.dptr [E2 l]),(7,.ptr 1058 0)] [(1058,.box 3 [G0 id_])] 1057 rfl rfl rfl ⟨⟨_,rfl,.boxEq rfl rfl⟩,G⟩ rfl (by repeat' (first | exact .ptr | constructor)) ?_
 refine Gu [(4,Eb s),(5,.dptr [E3 boxes]),(6,.dptr [E2 l]),(7,.dptr [G0 id_])] [] 1058 rfl rfl rfl G rfl (by repeat' (first | exact .ptr | constructor)) (Jr fun hK2=>(JLh (E3 boxes) (Gf G0c O O O) O (JLh (G0 id_) (Gf Gc O O O) O ?_)))
 obtain⟨r3,hr3,h⟩:=Ge h
 refine JLh (G0 r3) (Gk O (Rw boxes id_ r3 hr3) G82 ⟨O,O,O,O,G⟩) O (JLh (.ptr 1059 0) (Ju 1059 1 Q1 O O) O (Jf (u:=.junk) (J2 (u:=G0 r3) (ds:=[G0 r3]) J61 O O O O O O O O) (G8 (hK2 (Gu [(4,Eb s),(5,.dptr [E3 boxes]),(6,.dptr [E2 l]),(7,.dptr [G0 id_]),(9,.dptr [G0 r3])] [] 1059 rfl rfl rfl G rfl (by repeat' (first | exact .ptr | constructor)) ?_)))))
 refine Jr fun hK4=>(JLh (.fn 71 [.dptr (H2.cs s),.dptr [E3 boxes],.dptr [E2 l],.dptr [G0 r3],.dptr [G0 id_]]) (G23 (cs:=[.dptr (H2.cs s),.dptr [E3 boxes],.dptr [E2 l],.dptr [G0 r3],.dptr [G0 id_]]) O O) O (G57 (.fn 71 [.dptr (H2.cs s),.dptr [E3 boxes],.dptr [E2 l],.dptr [G0 r3],.dptr [G0 id_]]) O (G8 (hK4 ?_))))
 refine Jr fun hK5=>(JLh (OW 1060 1 G0 ([]:List Int)) (G39 1060 3 1 O O O) O (G8 (hK5 (Js fun hK6=>Jr fun hK7=>(JLh (E2 l) (Gf Rh O O O) O (JLl H0 O O O fun hm19=>(G57 (G0 0) O (G8 (hK7 (Gp ?_))))))))))
 obtain⟨b24,kx24,hb24,hkx24,h⟩:=Hx h
 refine He (fun i24 (s24:(List Int))=>each b24 kx24 (List.drop i24 l) i24 s24=some r) (fun i24 s24=>[(7,.dptr [G0 id_]),(10,.fn 71 [.dptr (H2.cs s),.dptr [E3 boxes],.dptr [E2 l],.dptr [G0 r3],.dptr [G0 id_]]),(11,OW 1060 1 G0 s24),(18,E2 l),(19,Ei l.length),(20,Ei i24)]) (fun i24 s24=>[(1060,.spare 3 1 s24.length s24.length)]) (fun i24=>l.length - i24) 0 [] h ⟨(.sm O O),⟨⟨_,rfl,.same⟩,G⟩,rfl⟩ ?_
 clear h
 intro i24 s24 hi24 K24 e24
 refine Jr fun hK25=>(JLh (BL (decide ((i24:Int) < (l.length:Int)))) (J1 O O O) O (G8 (hK25 (Js fun hK26=>Gm O (fun hb=>?_) (fun hb=>?_)))))
 ·
  have hk24:=Jc hb
  obtain⟨y24,nx24,hy24,hn24,h⟩:=Hm hi24 hk24
  replace h:=Rn hb24 h
  refine Gn (hK26 ?_)
  obtain⟨kj27,hkj27,h⟩:=G37 h
  refine Zy (fun j27:(List Int)=>kj27 j27=some r) (fun j27=>[(7,.dptr [G0 id_]),(10,.fn 71 [.dptr (H2.cs s),.dptr [E3 boxes],.dptr [E2 l],.dptr [G0 r3],.dptr [G0 id_]]),(11,OW 1060 1 G0 j27),(18,E2 l),(19,Ei l.length),(20,Ei i24)]) (fun j27=>[(1060,.spare 3 1 j27.length j27.length)]) (fun Kj27 ej27=>?_) ?_
  ·
   refine Gp (Jr fun hK28=>(JLh (Ec y24) (Gw (f:=Stowed.av) (xs:=l) (y:=y24) O O O H0 hy24 O) O (JLh (.agg (Stowed.cs y24)) (Gj Z8 O O O) O (JLh (.ptr 1061 0) (Ju 1061 4 G13 O O) O (Jf (u:=.junk) (J2 (u:=.agg (Stowed.cs y24)) (ds:=[G0 y24.Gg,G0 y24.Slot.G4,G0 y24.Slot.Tier,U8 y24.Slot.Half]) G36 O O O O O O O O) (G8 (hK28 ?_)))))))
   refine Gu [(7,.dptr [G0 id_]),(10,.fn 71 [.dptr (H2.cs s),.dptr [E3 boxes],.dptr [E2 l],.dptr [G0 r3],.dptr [G0 id_]]),(11,OW 1060 1 G0 s24),(13,Ec y24),(18,E2 l),(19,Ei l.length),(20,Ei i24)] [(1060,.spare 3 1 s24.length s24.length)] 1061 rfl rfl rfl ⟨⟨_,rfl,.same⟩,G⟩ rfl (by repeat' (first | exact .ptr | constructor)) ?_
   refine Jr fun hK29=>(JLh (Ec y24) (Ga Hw O O O) O (JLh (G0 y24.Gg) (Gf Gc O O O) O (JLh (G0 id_) (Gf Gc O O O) O (JLh (BL (decide (y24.Gg≠id_))) (G30 O O O) O (G57 (BL (decide (y24.Gg≠id_))) O (JLo (.fn 71 [.dptr (H2.cs s),.dptr [E3 boxes],.dptr [E2 l],.dptr [G0 r3],.dptr [G0 id_]]) [] O .sct G (fun hc=>G5 O O) O (JLo (Ec y24) [] O .sct G (fun hc=>Ga Hw O O O) O (JLo (G0 y24.Gg) [30] O .sct ⟨Ua,G⟩ (fun hc=>Gf Gc O O O) O ?_))))))))
   obtain⟨r30,hr30,h⟩:=Ge h
   refine JLo (BL r30) [29,31] O .sct ⟨Ua,Ua,G⟩ (fun hc=>G8d (args:=[G0 y24.Gg]) (caps:=[.dptr (H2.cs s),.dptr [E3 boxes],.dptr [E2 l],.dptr [G0 r3],.dptr [G0 id_]]) O O (Hfe F y24.Gg s boxes l r3 id_ r30 (Gy hc hr30)) Q9b ⟨O,O,G⟩ O) O (JLh (BL ((decide (y24.Gg≠id_))&&r30)) (J5 O O O O) O (G8 (hK29 (JCc O h (fun h hb=>?_) (fun h hb=>?_)))))
   ·
    refine G3 (G57 (OW 1060 1 G0 s24) O (JLh (Ec y24) (Ga Hw O O O) O (JLh (G0 y24.Gg) (Gf Gc O O O) O (JLh (E1 [y24.Gg]) (Hd (xs:=[G0 y24.Gg]) O ⟨O,O,G⟩ Gq Q1 O O O O) O ?_))))
    obtain⟨ha31,h⟩:=Hv h
    refine JLh (OW 1060 1 G0 (s24++[y24.Gg])) (Qo (f:=G0) (xs:=s24) (ys:=[y24.Gg]) O O O O Gq Y2 ha31 (fun _=>O) (.inl O) O) O (G57 (OW 1060 1 G0 (s24++[y24.Gg])) O (G8 (ej27 _ _ (s24++[y24.Gg]) h ⟨(.sm O O),⟨⟨_,rfl,.same⟩,G⟩,rfl⟩)))
   ·
    refine Gn (ej27 _ _ s24 h ⟨(.sm O O),⟨⟨_,rfl,.same⟩,G⟩,rfl⟩)
  ·intro j27 h
   replace h:=app1 hkj27 h
   refine G3 (JLh (G0 ((i24+1:Nat):Int)) (Hu (Hc hk24 hm19) O O O) O (G57 (G0 ((i24+1:Nat):Int)) O (G8 (e24 _ _ (i24+1) j27 (app1 hn24 h) (by omega) ⟨(.sm O O),⟨⟨_,rfl,.same⟩,G⟩,rfl⟩))))
 ·
  have h:=app1 hkx24 (Hn hi24 (H6 hb))
  refine Hk (hK6 (Jr fun hK32=>(G57 (OW 1060 1 G0 s24) O (G57 (OW 1060 1 G0 s24) O (G8 (hK32 (Gr (fin1l (fun r:(List Int)=>(E1 r:AV)) h))))))))

def Yb (F:Nat) (s:H2) (boxes:List Gg) (l:List Stowed) (id_:Int):Option ((List Int)×Int):=
 bnd (Rk s boxes l) fun r4=>
 bif (!r4) then
 (some ([],2))
 else
 (bnd (Ge4 l id_) fun r7=>
  bif (!r7) then
  (some ([],6))
  else
  (bnd (G43 F s boxes l id_) fun r10=>
   some (r10,0)))
theorem G7d (F:Nat) (s:H2) (boxes:List Gg) (l:List Stowed) (id_:Int) (r:(List Int)×Int) (h:Yb F s boxes l id_=some r):Pure Ej 10 [.agg (H2.cs s),E3 boxes,E2 l,G0 id_] (·=.tup [E1 r.1,G0 r.2]):=by
 unfold Yb at h
 refine Gx [.tmp 8,.tmp 9] Tryz.func10 O O (Jr fun hK1=>(JLh (.ptr 1011 0) (Ja (cs:=(H2.cs s)) 1011 O O O O O) O (JLh (E1 ([]:List Int)) (Hb 1 O O) O (G57 (G0 0) O (G8 (hK1 ?_))))))
 refine Gu [(1,E3 boxes),(2,E2 l),(3,G0 id_),(4,Eb s)] [] 1011 rfl rfl rfl G rfl (by repeat' (first | exact .ptr | constructor)) (Js fun hK2=>Gp (Jr fun hK3=>(JLh (.agg (H2.cs s)) (Gj Hh O O O) O (G57 (E3 boxes) O (G57 (E2 l) O ?_)))))
 obtain⟨r4,hr4,h⟩:=Ge h
 refine JLh (BL r4) (Gk O (G8a s boxes l r4 hr4) H23 ⟨O,O,O,O,O,O,G⟩) O (JLh (BL (!r4)) (Qh (b:=r4) O O) O (G57 (BL (!r4)) O (G8 (hK3 (JCc O h (fun h hb=>?_) (fun h hb=>?_))))))
 ·
  refine Jr fun hK5=>(JLh (E1 ([]:List Int)) (Hb 1 O O) O (G57 (G0 2) O (G8 (hK5 (Gr (⟨[E1 ([]:List Int),G0 2],[],G,O,⟨⟨_,O,.conv (.same O)⟩,⟨_,O,.conv (.same O)⟩,G⟩,O,congrArg (fun r:(List Int)×Int=>(.tup [E1 r.1,G0 r.2]:AV)) (Option.some.inj h)⟩))))))
 ·
  refine Jr fun hK6=>(G57 (E2 l) O (G57 (G0 id_) O ?_))
  obtain⟨r7,hr7,h⟩:=Ge h
  refine JLh (BL r7) (Gk O (J55 l id_ r7 hr7) Jde ⟨O,O,O,O,G⟩) O (JLh (BL (!r7)) (Qh (b:=r7) O O) O (G57 (BL (!r7)) O (G8 (hK6 (JCc O h (fun h hb=>?_) (fun h hb=>?_))))))
  ·
   refine Jr fun hK8=>(JLh (E1 ([]:List Int)) (Hb 1 O O) O (G57 (G0 6) O (G8 (hK8 (Gr (⟨[E1 ([]:List Int),G0 6],[],G,O,⟨⟨_,O,.conv (.same O)⟩,⟨_,O,.conv (.same O)⟩,G⟩,O,congrArg (fun r:(List Int)×Int=>(.tup [E1 r.1,G0 r.2]:AV)) (Option.some.inj h)⟩))))))
  ·
   refine Gn (hK2 (Jr fun hK9=>(JLh (.agg (H2.cs s)) (Gj Hh O O O) O (G57 (E3 boxes) O (G57 (E2 l) O (G57 (G0 id_) O ?_))))))
   obtain⟨r10,hr10,h⟩:=Ge h
   refine JLh (E1 r10) (Gk O (H5e F s boxes l id_ r10 hr10) Jdd ⟨O,O,O,O,O,O,O,O,G⟩) O (G57 (E1 r10) O (G57 (G0 0) O (G8 (hK9 (Gr (⟨[E1 r10,G0 0],[],G,O,⟨⟨_,O,.conv (.same O)⟩,⟨_,O,.conv (.same O)⟩,G⟩,O,congrArg (fun r:(List Int)×Int=>(.tup [E1 r.1,G0 r.2]:AV)) (Option.some.inj h)⟩))))))

def Z4 (F:Nat) (s:H2) (boxes:List Gg) (l:List Stowed):Option (Int×(List Int)×(List Int)×Int):=
 bnd (Rk s boxes l) fun r4=>
 bif (!r4) then
 (some (0,[],[],2))
 else
 (bif decide ((l.length:Int)=0) then
  (some (0,[],[],6))
  else
  (Qr l 0 fun y10=>
   bnd (Jp boxes y10.Gg) fun r12=>
   each (fun y27 i27 (s27:Int) nx27=>
    bnd (Jp boxes y27.Gg) fun r32=>
    nx27 (min s27 r32))
   (fun(s27:Int)=>
    each (fun y52 i52 (s52:(List Int)) nx52=>
     jp (fun kj55=>
      bnd (Jp boxes y52.Gg) fun r58=>
      bif decide (r58=s27) then
      (need (decide ((s52.length+[y52.Gg].length)*8≤140737488355328∧s52.length+[y52.Gg].length≤maxLen)) <|
       kj55 (s52++[y52.Gg]))
      else
      (kj55 s52)) fun(j55:(List Int))=>
     nx52 j55)
    (fun(s52:(List Int))=>
     bnd (Z3 F s boxes l s52) fun r61=>
     each (fun y80 i80 (s80:(List Int)) nx80=>
      jp (fun kj83=>
       bnd (Jp boxes y80) fun r86=>
       bif decide (r86≠s27) then
       (need (decide ((s80.length+[y80].length)*8≤140737488355328∧s80.length+[y80].length≤maxLen)) <|
        kj83 (s80++[y80]))
       else
       (kj83 s80)) fun(j83:(List Int))=>
      nx80 j83)
     (fun(s80:(List Int))=>
      some (s27,s52,s80,0)) r61.1 0 []) l 0 []) l 0 r12))
theorem H5f (F:Nat) (s:H2) (boxes:List Gg) (l:List Stowed) (r:Int×(List Int)×(List Int)×Int) (h:Z4 F s boxes l=some r):Pure Ej 14 [.agg (H2.cs s),E3 boxes,E2 l] (·=.tup [G0 r.1,E1 r.2.1,E1 r.2.2.1,G0 r.2.2.2]):=by
 unfold Z4 at h
 refine Gx [.tmp 6,.tmp 7,.tmp 8,.tmp 9] Tryz.func14 O O (Jr fun hK1=>(JLh (.ptr 1020 0) (Ja (cs:=(H2.cs s)) 1020 O O O O O) O (G57 (G0 0) O (JLh (E1 ([]:List Int)) (Hb 1 O O) O (JLh (E1 ([]:List Int)) (Hb 1 O O) O (G57 (G0 0) O (G8 (hK1 ?_))))))))
 refine Gu [(1,E3 boxes),(2,E2 l),(3,Eb s)] [] 1020 rfl rfl rfl G rfl (by exact⟨.conv (.same rfl),.conv (.same rfl),.ptr,G⟩) (Js fun hK2=>Jr fun hK3=>(JLh (.agg (H2.cs s)) (Gj Hh O O O) O (G57 (E3 boxes) O (G57 (E2 l) O ?_))))
 obtain⟨r4,hr4,h⟩:=Ge h
 refine JLh (BL r4) (Gk O (G8a s boxes l r4 hr4) H23 ⟨O,O,O,O,O,O,G⟩) O (JLh (BL (!r4)) (Qh (b:=r4) O O) O (G8 (hK3 (JCc O h (fun h hb=>?_) (fun h hb=>?_)))))
 ·
  refine Jr fun hK5=>(G57 (G0 0) O (JLh (E1 ([]:List Int)) (Hb 1 O O) O (JLh (E1 ([]:List Int)) (Hb 1 O O) O (G57 (G0 2) O (G8 (hK5 (Gr (⟨[G0 0,E1 ([]:List Int),E1 ([]:List Int),G0 2],[],G,O,⟨⟨_,O,.conv (.same O)⟩,⟨_,O,.conv (.same O)⟩,⟨_,O,.conv (.same O)⟩,⟨_,O,.conv (.same O)⟩,G⟩,O,congrArg (fun r:Int×(List Int)×(List Int)×Int=>(.tup [G0 r.1,E1 r.2.1,E1 r.2.2.1,G0 r.2.2.2]:AV)) (Option.some.inj h)⟩))))))))
 ·
  refine Gn (hK2 (Js fun hK6=>Jr fun hK7=>(G57 (E2 l) O (JLl H0 O O O fun hm27=>(JLh (BL (decide ((l.length:Int)=0))) (Jx O O O) O (G8 (hK7 (JCc O h (fun h hb=>?_) (fun h hb=>?_)))))))))
  ·
   refine Jr fun hK8=>(G57 (G0 0) O (JLh (E1 ([]:List Int)) (Hb 1 O O) O (JLh (E1 ([]:List Int)) (Hb 1 O O) O (G57 (G0 6) O (G8 (hK8 (Gr (⟨[G0 0,E1 ([]:List Int),E1 ([]:List Int),G0 6],[],G,O,⟨⟨_,O,.conv (.same O)⟩,⟨_,O,.conv (.same O)⟩,⟨_,O,.conv (.same O)⟩,⟨_,O,.conv (.same O)⟩,G⟩,O,congrArg (fun r:Int×(List Int)×(List Int)×Int=>(.tup [G0 r.1,E1 r.2.1,E1 r.2.2.1,G0 r.2.2.2]:AV)) (Option.some.inj h)⟩))))))))
  ·
   refine Gn (hK6 (Jr fun hK9=>(G57 (E3 boxes) O (G57 (E2 l) O ?_))))
   obtain⟨m11,y10,hm11,hy10,h⟩:=R2 h
   refine JLh (Ec y10) (Gw (f:=Stowed.av) (xs:=l) (y:=y10) O O O H0 hy10 hm11) O (JLh (Ec y10) (Ga Hw O O O) O (JLh (G0 y10.Gg) (Gf Gc O O O) O ?_))
   obtain⟨r12,hr12,h⟩:=Ge h
   refine JLh (G0 r12) (Gk O (Rw boxes y10.Gg r12 hr12) G82 ⟨O,O,O,O,G⟩) O (G57 (G0 r12) O (G8 (hK9 (Js fun hK13=>Jr fun hK14=>(G57 (E2 l) O (JLl H0 O O O fun hm36=>(G57 (G0 0) O (G8 (hK14 (Gp ?_))))))))))
   obtain⟨b27,kx27,hb27,hkx27,h⟩:=Hx h
   refine He (fun i27 (s27:Int)=>each b27 kx27 (List.drop i27 l) i27 s27=some r) (fun i27 s27=>[(1,E3 boxes),(2,E2 l),(3,Eb s),(10,G0 s27),(35,E2 l),(36,Ei l.length),(37,Ei i27)]) (fun i27 s27=>[]) (fun i27=>l.length - i27) 0 r12 h ⟨(.sm O O),G,rfl⟩ ?_
   clear h
   intro i27 s27 hi27 K27 e27
   refine Jr fun hK28=>(JLh (BL (decide ((i27:Int) < (l.length:Int)))) (J1 O O O) O (G8 (hK28 (Js fun hK29=>Gm O (fun hb=>?_) (fun hb=>?_)))))
   ·
    have hk27:=Jc hb
    obtain⟨y27,nx27,hy27,hn27,h⟩:=Hm hi27 hk27
    replace h:=Rn hb27 h
    refine Gn (hK29 (Js fun hK30=>Gp (Jr fun hK31=>(JLh (Ec y27) (Gw (f:=Stowed.av) (xs:=l) (y:=y27) O O O H0 hy27 O) O (JLh (.agg (Stowed.cs y27)) (Gj Z8 O O O) O (JLh (.ptr 1021 0) (Ju 1021 4 G13 O O) O (Jf (u:=.junk) (J2 (u:=.agg (Stowed.cs y27)) (ds:=[G0 y27.Gg,G0 y27.Slot.G4,G0 y27.Slot.Tier,U8 y27.Slot.Half]) G36 O O O O O O O O) (G8 (hK31 ?_)))))))))
    refine Gu [(1,E3 boxes),(2,E2 l),(3,Eb s),(10,G0 s27),(12,Ec y27),(35,E2 l),(36,Ei l.length),(37,Ei i27)] [] 1021 rfl rfl rfl G rfl (by repeat' (first | exact .ptr | constructor)) (G3 (G57 (G0 s27) O (G57 (E3 boxes) O (JLh (Ec y27) (Ga Hw O O O) O (JLh (G0 y27.Gg) (Gf Gc O O O) O ?_)))))
    obtain⟨r32,hr32,h⟩:=Ge h
    refine JLh (G0 r32) (Gk O (Rw boxes y27.Gg r32 hr32) G82 ⟨O,O,O,O,G⟩) O (JLh (G0 (min s27 r32)) (A_min O O O) O (G57 (G0 (min s27 r32)) O (G8 (hK30 (G3 (JLh (G0 ((i27+1:Nat):Int)) (Hu (Hc hk27 hm36) O O O) O (G57 (G0 ((i27+1:Nat):Int)) O (G8 (e27 _ _ (i27+1) (min s27 r32) (app1 hn27 h) (by omega) ⟨(.sm O O),G,rfl⟩)))))))))
   ·
    have h:=app1 hkx27 (Hn hi27 (H6 hb))
    refine Hk (hK13 (Jr fun hK33=>(JLh (OW 1022 1 G0 ([]:List Int)) (G39 1022 3 1 O O O) O (JLh (OW 1023 1 G0 ([]:List Int)) (G39 1023 3 1 O O O) O (G8 (hK33 (Js fun hK34=>Jr fun hK35=>(G57 (E2 l) O (JLl H0 O O O fun hm49=>(G57 (G0 0) O (G8 (hK35 (Gp ?_)))))))))))))
    obtain⟨b52,kx52,hb52,hkx52,h⟩:=Hx h
    refine He (fun i52 (s52:(List Int))=>each b52 kx52 (List.drop i52 l) i52 s52=some r) (fun i52 s52=>[(1,E3 boxes),(2,E2 l),(3,Eb s),(10,G0 s27),(13,OW 1022 1 G0 s52),(14,OW 1023 1 G0 ([]:List Int)),(48,E2 l),(49,Ei l.length),(50,Ei i52)]) (fun i52 s52=>[(1022,.spare 3 1 s52.length s52.length),(1023,.spare 3 1 ([]:List Int).length ([]:List Int).length)]) (fun i52=>l.length - i52) 0 [] h ⟨(.sm O O),⟨⟨_,rfl,.same⟩,⟨_,rfl,.same⟩,G⟩,rfl⟩ ?_
    clear h
    intro i52 s52 hi52 K52 e52
    refine Jr fun hK53=>(JLh (BL (decide ((i52:Int) < (l.length:Int)))) (J1 O O O) O (G8 (hK53 (Js fun hK54=>Gm O (fun hb=>?_) (fun hb=>?_)))))
    ·
     have hk52:=Jc hb
     obtain⟨y52,nx52,hy52,hn52,h⟩:=Hm hi52 hk52
     replace h:=Rn hb52 h
     refine Gn (hK54 ?_)
     obtain⟨kj55,hkj55,h⟩:=G37 h
     refine Zy (fun j55:(List Int)=>kj55 j55=some r) (fun j55=>[(1,E3 boxes),(2,E2 l),(3,Eb s),(10,G0 s27),(13,OW 1022 1 G0 j55),(14,OW 1023 1 G0 ([]:List Int)),(48,E2 l),(49,Ei l.length),(50,Ei i52)]) (fun j55=>[(1022,.spare 3 1 j55.length j55.length),(1023,.spare 3 1 ([]:List Int).length ([]:List Int).length)]) (fun Kj55 ej55=>?_) ?_
     ·
      refine Gp (Jr fun hK56=>(JLh (Ec y52) (Gw (f:=Stowed.av) (xs:=l) (y:=y52) O O O H0 hy52 O) O (JLh (.agg (Stowed.cs y52)) (Gj Z8 O O O) O (JLh (.ptr 1024 0) (Ju 1024 4 G13 O O) O (Jf (u:=.junk) (J2 (u:=.agg (Stowed.cs y52)) (ds:=[G0 y52.Gg,G0 y52.Slot.G4,G0 y52.Slot.Tier,U8 y52.Slot.Half]) G36 O O O O O O O O) (G8 (hK56 ?_)))))))
      refine Gu [(1,E3 boxes),(2,E2 l),(3,Eb s),(10,G0 s27),(13,OW 1022 1 G0 s52),(14,OW 1023 1 G0 ([]:List Int)),(16,Ec y52),(48,E2 l),(49,Ei l.length),(50,Ei i52)] [(1022,.spare 3 1 s52.length s52.length),(1023,.spare 3 1 ([]:List Int).length ([]:List Int).length)] 1024 rfl rfl rfl ⟨⟨_,rfl,.same⟩,⟨_,rfl,.same⟩,G⟩ rfl (by repeat' (first | exact .ptr | constructor)) ?_
      refine Jr fun hK57=>(G57 (E3 boxes) O (JLh (Ec y52) (Ga Hw O O O) O (JLh (G0 y52.Gg) (Gf Gc O O O) O ?_)))
      obtain⟨r58,hr58,h⟩:=Ge h
      refine JLh (G0 r58) (Gk O (Rw boxes y52.Gg r58 hr58) G82 ⟨O,O,O,O,G⟩) O (G57 (G0 s27) O (JLh (BL (decide (r58=s27))) (Jx O O O) O (G8 (hK57 (JCc O h (fun h hb=>?_) (fun h hb=>?_))))))
      ·
       refine G3 (G57 (OW 1022 1 G0 s52) O (JLh (Ec y52) (Ga Hw O O O) O (JLh (G0 y52.Gg) (Gf Gc O O O) O (JLh (E1 [y52.Gg]) (Hd (xs:=[G0 y52.Gg]) O ⟨O,O,G⟩ Gq Q1 O O O O) O ?_))))
       obtain⟨ha59,h⟩:=Hv h
       refine JLh (OW 1022 1 G0 (s52++[y52.Gg])) (Qo (f:=G0) (xs:=s52) (ys:=[y52.Gg]) O O O O Gq Y2 ha59 (fun _=>O) (.inl O) O) O (G57 (OW 1022 1 G0 (s52++[y52.Gg])) O (G8 (ej55 _ _ (s52++[y52.Gg]) h ⟨(.sm O O),⟨⟨_,rfl,.same⟩,⟨_,rfl,.same⟩,G⟩,rfl⟩)))
      ·
       refine Gn (ej55 _ _ s52 h ⟨(.sm O O),⟨⟨_,rfl,.same⟩,⟨_,rfl,.same⟩,G⟩,rfl⟩)
     ·intro j55 h
      replace h:=app1 hkj55 h
      refine G3 (JLh (G0 ((i52+1:Nat):Int)) (Hu (Hc hk52 hm49) O O O) O (G57 (G0 ((i52+1:Nat):Int)) O (G8 (e52 _ _ (i52+1) j55 (app1 hn52 h) (by omega) ⟨(.sm O O),⟨⟨_,rfl,.same⟩,⟨_,rfl,.same⟩,G⟩,rfl⟩))))
    ·
     have h:=app1 hkx52 (Hn hi52 (H6 hb))
     refine Hk (hK34 (Jr fun hK60=>(JLh (.agg (H2.cs s)) (Gj Hh O O O) O (G57 (E3 boxes) O (G57 (E2 l) O (G57 (OW 1022 1 G0 s52) O ?_))))))
     obtain⟨r61,hr61,h⟩:=Ge h
     refine JLh (.tup [E1 r61.1,G0 r61.2]) (Gk O (H33.down F s boxes l s52 r61 hr61) J1c ⟨O,O,O,O,O,O,O,O,G⟩) O (G57 (.tup [E1 r61.1,G0 r61.2]) O (JLh (E1 r61.1) (H9 O O O) O (JLh (G0 r61.2) (H9 O O O) O (G57 (E1 r61.1) O (G57 (G0 r61.2) O (G8 (hK60 (Js fun hK62=>Jr fun hK63=>(G57 (E1 r61.1) O (JLl Gq O O O fun hm75=>(G57 (G0 0) O (G8 (hK63 (Gp ?_))))))))))))))
     obtain⟨b80,kx80,hb80,hkx80,h⟩:=Hx h
     refine He (fun i80 (s80:(List Int))=>each b80 kx80 (List.drop i80 r61.1) i80 s80=some r) (fun i80 s80=>[(1,E3 boxes),(10,G0 s27),(13,OW 1022 1 G0 s52),(14,OW 1023 1 G0 s80),(74,E1 r61.1),(75,Ei r61.1.length),(76,Ei i80)]) (fun i80 s80=>[(1022,.spare 3 1 s52.length s52.length),(1023,.spare 3 1 s80.length s80.length)]) (fun i80=>r61.1.length - i80) 0 [] h ⟨(.sm O O),⟨⟨_,rfl,.same⟩,⟨_,rfl,.same⟩,G⟩,rfl⟩ ?_
     clear h
     intro i80 s80 hi80 K80 e80
     refine Jr fun hK81=>(JLh (BL (decide ((i80:Int) < (r61.1.length:Int)))) (J1 O O O) O (G8 (hK81 (Js fun hK82=>Gm O (fun hb=>?_) (fun hb=>?_)))))
     ·
      have hk80:=Jc hb
      obtain⟨y80,nx80,hy80,hn80,h⟩:=Hm hi80 hk80
      replace h:=Rn hb80 h
      refine Gn (hK82 ?_)
      obtain⟨kj83,hkj83,h⟩:=G37 h
      refine Zy (fun j83:(List Int)=>kj83 j83=some r) (fun j83=>[(1,E3 boxes),(10,G0 s27),(13,OW 1022 1 G0 s52),(14,OW 1023 1 G0 j83),(74,E1 r61.1),(75,Ei r61.1.length),(76,Ei i80)]) (fun j83=>[(1022,.spare 3 1 s52.length s52.length),(1023,.spare 3 1 j83.length j83.length)]) (fun Kj83 ej83=>?_) ?_
      ·
       refine Gp (Jr fun hK84=>(JLh (.dptr [G0 y80]) (Gw (f:=G0) (xs:=r61.1) (y:=y80) O O O Gq hy80 O) O (JLh (G0 y80) (Gf Gc O O O) O (G57 (G0 y80) O (G8 (hK84 (Jr fun hK85=>(G57 (E3 boxes) O (G57 (G0 y80) O ?_)))))))))
       obtain⟨r86,hr86,h⟩:=Ge h
       refine JLh (G0 r86) (Gk O (Rw boxes y80 r86 hr86) G82 ⟨O,O,O,O,G⟩) O (G57 (G0 s27) O (JLh (BL (decide (r86≠s27))) (G30 O O O) O (G8 (hK85 (JCc O h (fun h hb=>?_) (fun h hb=>?_))))))
       ·
        refine G3 (G57 (OW 1023 1 G0 s80) O (G57 (G0 y80) O (JLh (E1 [y80]) (Hd (xs:=[G0 y80]) O ⟨O,O,G⟩ Gq Q1 O O O O) O ?_)))
        obtain⟨ha87,h⟩:=Hv h
        refine JLh (OW 1023 1 G0 (s80++[y80])) (Qo (f:=G0) (xs:=s80) (ys:=[y80]) O O O O Gq Y2 ha87 (fun _=>O) (.inl O) O) O (G57 (OW 1023 1 G0 (s80++[y80])) O (G8 (ej83 _ _ (s80++[y80]) h ⟨(.sm O O),⟨⟨_,rfl,.same⟩,⟨_,rfl,.same⟩,G⟩,rfl⟩)))
       ·
        refine Gn (ej83 _ _ s80 h ⟨(.sm O O),⟨⟨_,rfl,.same⟩,⟨_,rfl,.same⟩,G⟩,rfl⟩)
      ·intro j83 h
       replace h:=app1 hkj83 h
       refine G3 (JLh (G0 ((i80+1:Nat):Int)) (Hu (Hc hk80 hm75) O O O) O (G57 (G0 ((i80+1:Nat):Int)) O (G8 (e80 _ _ (i80+1) j83 (app1 hn80 h) (by omega) ⟨(.sm O O),⟨⟨_,rfl,.same⟩,⟨_,rfl,.same⟩,G⟩,rfl⟩))))
     ·
      have h:=app1 hkx80 (Hn hi80 (H6 hb))
      refine Hk (hK62 (Jr fun hK88=>(G57 (G0 s27) O (G57 (OW 1022 1 G0 s52) O (G57 (OW 1023 1 G0 s80) O (G57 (G0 s27) O (G57 (OW 1022 1 G0 s52) O (G57 (OW 1023 1 G0 s80) O (G57 (G0 0) O (G8 (hK88 (Gr (⟨[G0 s27,E1 s52,E1 s80,G0 0],[],G,O,⟨⟨_,O,.conv (.same O)⟩,⟨_,O,.conv (.list O)⟩,⟨_,O,.conv (.list O)⟩,⟨_,O,.conv (.same O)⟩,G⟩,O,congrArg (fun r:Int×(List Int)×(List Int)×Int=>(.tup [G0 r.1,E1 r.2.1,E1 r.2.2.1,G0 r.2.2.2]:AV)) (Option.some.inj h)⟩)))))))))))))

def Ha8 (s:H2) (boxes:List Gg) (l:List Stowed) (b:Gg):Option Unit:=
 some ()
abbrev Ey (s:H2) (b:Gg) (boxes:List Gg) (l:List Stowed):List AV:=[.dptr (H2.cs s),Ee b,.dptr [E3 boxes],.dptr [E2 l]]
theorem Q14 (s:H2) (boxes:List Gg) (l:List Stowed) (b:Gg) (r:Unit) (h:Ha8 s boxes l b=some r):Pure Ej 50 [.agg (H2.cs s),E3 boxes,E2 l,.agg (Gg.cs b)] (·=.fn 104 [.dptr (H2.cs s),Ee b,.dptr [E3 boxes],.dptr [E2 l]]):=by
 unfold Ha8 at h
 refine Gx [.tmp 8] Tryz.func50 O O (Jr fun hK1=>(JLh (.ptr 1082 0) (Ja (cs:=(H2.cs s)) 1082 O O O O O) O (JLh (.ptr 1083 0) (Ja (cs:=[E3 boxes]) 1083 O O O O O) O (JLh (.ptr 1084 0) (Ja (cs:=[E2 l]) 1084 O O O O O) O (JLh (.ptr 1085 0) (Ja (cs:=(Gg.cs b)) 1085 O O O O O) O (G57 (.sc .nilFunc) O (G8 (hK1 ?_))))))))
 refine Gu [(4,Eb s),(5,.ptr 1083 0),(6,.ptr 1084 0),(7,.ptr 1085 0)] [(1083,.box 33 [E3 boxes]),(1084,.box 34 [E2 l]),(1085,.box 69 (Gg.cs b))] 1082 rfl rfl rfl ⟨⟨_,rfl,.boxEq rfl rfl⟩,⟨_,rfl,.boxEq rfl rfl⟩,⟨_,rfl,.boxEq rfl rfl⟩,G⟩ rfl (by repeat' (first | exact .ptr | constructor)) ?_
 refine Gu [(4,Eb s),(5,.dptr [E3 boxes]),(6,.ptr 1084 0),(7,.ptr 1085 0)] [(1084,.box 34 [E2 l]),(1085,.box 69 (Gg.cs b))] 1083 rfl rfl rfl ⟨⟨_,rfl,.boxEq rfl rfl⟩,⟨_,rfl,.boxEq rfl rfl⟩,G⟩ rfl (by repeat' (first | exact .ptr | constructor)) ?_
 refine Gu [(4,Eb s),(5,.dptr [E3 boxes]),(6,.dptr [E2 l]),(7,.ptr 1085 0)] [(1085,.box 69 (Gg.cs b))] 1084 rfl rfl rfl ⟨⟨_,rfl,.boxEq rfl rfl⟩,G⟩ rfl (by repeat' (first | exact .ptr | constructor)) ?_
 refine Gu [(4,Eb s),(5,.dptr [E3 boxes]),(6,.dptr [E2 l]),(7,Ee b)] [] 1085 rfl rfl rfl G rfl (by repeat' (first | exact .ptr | constructor)) ?_
 refine Jr fun hK2=>(JLh (.fn 104 (Ey s b boxes l)) (G23 (cs:=(Ey s b boxes l)) O O) O (G57 (.fn 104 (Ey s b boxes l)) O (G8 (hK2 ?_))))
 refine Gr (⟨[.fn 104 (Ey s b boxes l)],[],G,O,⟨⟨_,O,.conv (.same O)⟩,G⟩,O,congrArg (fun _:Unit=>(.fn 104 (Ey s b boxes l):AV)) (Option.some.inj h)⟩)

def H43 (F:Nat) (s:H2) (boxes:List Gg) (l:List Stowed) (id_:Int):Option ((List Slot)×Int×Int):=
 bnd (Rk s boxes l) fun r4=>
 bif (!r4) then
 (some ([],0,2))
 else
 (bnd (G4c boxes id_) fun r7=>
  bif ((!r7.2)||((decide (r7.1.Size≠20))&&(decide (r7.1.Size≠40)))) then
  (some ([],0,6))
  else
  (bnd (Ge4 l id_) fun r12=>
   bif r12 then
   (some ([],0,96))
   else
   (bnd (Ha8 s boxes l r7.1) fun r18=>
    bnd (Hdb F s r7.1 boxes l) fun ys35=>
    each (fun y35 i35 (s35:(List Slot)×Int×Nat) nx35=>
     bnd (G43 F s boxes y35.2 id_) fun r38=>
     jp (fun kj39=>
      bif ((decide ((s35.1.length:Int)=0))||(decide ((r38.length:Int) < s35.2.1))) then
      (kj39 ((s35.2.2+1),(r38.length:Int),[]))
      else
      (kj39 (s35.2.2,s35.2.1,s35.1))) fun(j39:Nat×Int×(List Slot))=>
     bif decide ((r38.length:Int)=j39.2.1) then
     (need (decide ((j39.2.2.length+[y35.1].length)*24≤140737488355328∧j39.2.2.length+[y35.1].length≤maxLen)) <|
      nx35 ((j39.2.2++[y35.1]),j39.2.1,(j39.1+1)))
     else
     (nx35 (j39.2.2,j39.2.1,j39.1)))
    (fun(s35:(List Slot)×Int×Nat)=>
     bif decide ((s35.1.length:Int)=0) then
     (some ([],0,4))
     else
     (some (s35.1,s35.2.1,0))) ys35 0 ([],0,0))))
theorem J7e (F:Nat) (s:H2) (boxes:List Gg) (l:List Stowed) (id_:Int) (r:(List Slot)×Int×Int) (h:H43 F s boxes l id_=some r):Pure Ej 20 [.agg (H2.cs s),E3 boxes,E2 l,G0 id_] (·=.tup [E9 r.1,G0 r.2.1,G0 r.2.2]):=by
 unfold H43 at h
 refine Gx [.tmp 8,.tmp 9,.tmp 10] Tryz.func20 O O (Jr fun hK1=>(JLh (.ptr 1030 0) (Ja (cs:=(H2.cs s)) 1030 O O O O O) O (JLh (.ptr 1031 0) (Ja (cs:=[E3 boxes]) 1031 O O O O O) O (JLh (.ptr 1032 0) (Ja (cs:=[G0 id_]) 1032 O O O O O) O (JLh (E9 ([]:List Slot)) (Hb 3 O O) O (G57 (G0 0) O (G57 (G0 0) O (G8 (hK1 ?_)))))))))
 refine Gu [(2,E2 l),(4,Eb s),(5,.ptr 1031 0),(7,.ptr 1032 0)] [(1031,.box 33 [E3 boxes]),(1032,.box 3 [G0 id_])] 1030 rfl rfl rfl ⟨⟨_,rfl,.boxEq rfl rfl⟩,⟨_,rfl,.boxEq rfl rfl⟩,G⟩ rfl (by repeat' (first | exact .ptr | constructor)) ?_
 refine Gu [(2,E2 l),(4,Eb s),(5,.dptr [E3 boxes]),(7,.ptr 1032 0)] [(1032,.box 3 [G0 id_])] 1031 rfl rfl rfl ⟨⟨_,rfl,.boxEq rfl rfl⟩,G⟩ rfl (by repeat' (first | exact .ptr | constructor)) ?_
 refine Gu [(2,E2 l),(4,Eb s),(5,.dptr [E3 boxes]),(7,.dptr [G0 id_])] [] 1032 rfl rfl rfl G rfl (by repeat' (first | exact .ptr | constructor)) (Js fun hK2=>Jr fun hK3=>(JLh (.agg (H2.cs s)) (Gj Hh O O O) O (JLh (E3 boxes) (Gf G0c O O O) O (G57 (E2 l) O ?_))))
 obtain⟨r4,hr4,h⟩:=Ge h
 refine JLh (BL r4) (Gk O (G8a s boxes l r4 hr4) H23 ⟨O,O,O,O,O,O,G⟩) O (JLh (BL (!r4)) (Qh (b:=r4) O O) O (G8 (hK3 (JCc O h (fun h hb=>?_) (fun h hb=>?_)))))
 ·
  refine Jr fun hK5=>(JLh (E9 ([]:List Slot)) (Hb 3 O O) O (G57 (G0 0) O (G57 (G0 2) O (G8 (hK5 (Gr (⟨[E9 ([]:List Slot),G0 0,G0 2],[],G,O,⟨⟨_,O,.conv (.same O)⟩,⟨_,O,.conv (.same O)⟩,⟨_,O,.conv (.same O)⟩,G⟩,O,congrArg (fun r:(List Slot)×Int×Int=>(.tup [E9 r.1,G0 r.2.1,G0 r.2.2]:AV)) (Option.some.inj h)⟩)))))))
 ·
  refine Gn (hK2 (Jr fun hK6=>(JLh (E3 boxes) (Gf G0c O O O) O (JLh (G0 id_) (Gf Gc O O O) O ?_))))
  obtain⟨r7,hr7,h⟩:=Ge h
  refine JLh (.tup [.agg (Gg.cs r7.1),BL r7.2]) (Gk O (Gab boxes id_ r7 hr7) H22 ⟨O,O,O,O,G⟩) O (G57 (.tup [.agg (Gg.cs r7.1),BL r7.2]) O (JLh (.agg (Gg.cs r7.1)) (H9 O O O) O (JLh (BL r7.2) (H9 O O O) O (JLh (.ptr 1033 0) (Ju 1033 9 G2b O O) O (Jf (u:=.junk) (J2 (u:=.agg (Gg.cs r7.1)) (ds:=(Gg.cs r7.1)) G06 O O O O O O O O) (G57 (BL r7.2) O (G8 (hK6 ?_))))))))
  refine Gu [(2,E2 l),(4,Eb s),(5,.dptr [E3 boxes]),(7,.dptr [G0 id_]),(11,Ee r7.1),(12,BL r7.2)] [] 1033 rfl rfl rfl G rfl (by repeat' (first | exact .ptr | constructor)) (Js fun hK8=>Gp ?_)
  refine Jr fun hK9=>(G57 (BL r7.2) O (JLh (BL (!r7.2)) (Qh (b:=r7.2) O O) O (G57 (BL (!r7.2)) O (JLo (.dptr ((Gg.cs r7.1).drop 2)) [] O .scf G (fun hc=>Ga G2c O O O) O (JLo (U8 r7.1.Size) [33] O .scf ⟨Ua,G⟩ (fun hc=>Gf Jd O O O) O (JLo (BL (decide (r7.1.Size≠20))) [34] O .scf ⟨Ua,G⟩ (fun hc=>G30 O O O) O (JLo (BL (decide (r7.1.Size≠20))) [35] O .scf ⟨Ua,G⟩ (fun hc=>G5 O O) O (JLo (.dptr ((Gg.cs r7.1).drop 2)) [] O .optt G (fun hc=>Ga G2c O O O) O (JLo (U8 r7.1.Size) [37] O .optt ⟨Ua,G⟩ (fun hc=>Gf Jd O O O) O (JLo (BL (decide (r7.1.Size≠40))) [38] O .optt ⟨Ua,G⟩ (fun hc=>G30 O O O) O (Gb (u:=BL ((decide (r7.1.Size≠20))&&(decide (r7.1.Size≠40)))) [(36,BL (decide (r7.1.Size≠20))),(39,_)] O O O .scf ⟨.all id,.part,G⟩ (fun hc=>J5 O O O O) ?_)))))))))))
  refine JLh (BL ((!r7.2)||((decide (r7.1.Size≠20))&&(decide (r7.1.Size≠40))))) (Yc O O O O) O (G57 (BL ((!r7.2)||((decide (r7.1.Size≠20))&&(decide (r7.1.Size≠40))))) O (G8 (hK9 (JCc O h (fun h hb=>?_) (fun h hb=>?_)))))
  ·
   refine Jr fun hK10=>(JLh (E9 ([]:List Slot)) (Hb 3 O O) O (G57 (G0 0) O (G57 (G0 6) O (G8 (hK10 (Gr (⟨[E9 ([]:List Slot),G0 0,G0 6],[],G,O,⟨⟨_,O,.conv (.same O)⟩,⟨_,O,.conv (.same O)⟩,⟨_,O,.conv (.same O)⟩,G⟩,O,congrArg (fun r:(List Slot)×Int×Int=>(.tup [E9 r.1,G0 r.2.1,G0 r.2.2]:AV)) (Option.some.inj h)⟩)))))))
  ·
   refine Jr fun hK11=>(G57 (E2 l) O (JLh (G0 id_) (Gf Gc O O O) O ?_))
   obtain⟨r12,hr12,h⟩:=Ge h
   refine JLh (BL r12) (Gk O (J55 l id_ r12 hr12) Jde ⟨O,O,O,O,G⟩) O (G57 (BL r12) O (G8 (hK11 (JCc O h (fun h hb=>?_) (fun h hb=>?_)))))
   ·
    refine Jr fun hK13=>(JLh (E9 ([]:List Slot)) (Hb 3 O O) O (G57 (G0 0) O (G57 (G0 96) O (G8 (hK13 (Gr (⟨[E9 ([]:List Slot),G0 0,G0 96],[],G,O,⟨⟨_,O,.conv (.same O)⟩,⟨_,O,.conv (.same O)⟩,⟨_,O,.conv (.same O)⟩,G⟩,O,congrArg (fun r:(List Slot)×Int×Int=>(.tup [E9 r.1,G0 r.2.1,G0 r.2.2]:AV)) (Option.some.inj h)⟩)))))))
   ·
    refine Gn (hK8 (Jr fun hK14=>(JLh (.ptr 1034 0) (G1d 1034 [.sc (.slice none 0 0)] [.slice none 0 0] Jc7 ⟨.inl O,G⟩ O O) O (Q1a 1034 0 1037 71 3 O O O (cs':=[.own 1037 0 3 (([]:List Slot).map Slot.av)]) O (G8 (hK14 (Jr fun hK15=>(JLh (.ptr 1035 0) (Ju 1035 1 Q1 O O) O (Jf (u:=.junk) (J2 (u:=G0 0) (ds:=[G0 0]) J61 O O O O O O O O) (G8 (hK15 (Js fun hK16=>?_))))))))))))
    refine Jr fun hK17=>(JLh (.agg (H2.cs s)) (Gj Hh O O O) O (JLh (E3 boxes) (Gf G0c O O O) O (G57 (E2 l) O (JLh (.agg (Gg.cs r7.1)) (Gj G33 O O O) O ?_))))
    obtain⟨r18,hr18,h⟩:=Ge h
    refine JLh (.fn 104 [.dptr (H2.cs s),Ee r7.1,.dptr [E3 boxes],.dptr [E2 l]]) (Gk O (Q14 s boxes l r7.1 r18 hr18) Qa1 ⟨O,O,O,O,O,O,O,O,G⟩) O (G8 (hK17 (Gp ?_)))
    obtain⟨ys35,hy_35,h⟩:=Ge h
    obtain⟨b35,kx35,hb35,hkx35,h⟩:=Hx h
    refine J57 (ps:=[51,52]) [(4,Eb s),(5,.dptr [E3 boxes]),(7,.dptr [G0 id_]),(13,.ptr 1034 0),(14,.ptr 1035 0),(50,.fn 104 [.dptr (H2.cs s),Ee r7.1,.dptr [E3 boxes],.dptr [E2 l]])] (ys35.map (fun y:Slot×(List Stowed)=>[.agg (Slot.cs y.1),E2 y.2])) (fun i35 (s35:(List Slot)×Int×Nat)=>each b35 kx35 (List.drop i35 ys35) i35 s35=some r) (fun s35=>[(1037,.spare 71 3 s35.2.2 s35.1.length),(1034,.box 57 [.own 1037 s35.2.2 3 (s35.1.map Slot.av)]),(1035,.box 3 [G0 s35.2.1])]) ([],0,0) rfl rfl rfl Q72 (J76.down F s r7.1 boxes l ys35 hy_35) h ⟨(.sm O O),⟨⟨_,rfl,.same⟩,⟨_,rfl,.boxL rfl ⟨.same rfl,trivial⟩⟩,⟨_,rfl,.boxL rfl ⟨.same rfl,trivial⟩⟩,trivial⟩,rfl⟩ rfl (fun us_ hus_=>by obtain⟨_,_,rfl⟩:=List.mem_map.1 hus_; rfl) (fun p_ hp_=>Nat.blt_eq.mp (by revert p_; decide)) (fun _=>(.sm O O)) (fun _=>rfl) ?_ ?_
    ·
     intro i35 us_ s35 hu_ hi35 lr_ K35 e35
     obtain⟨hk35,rfl⟩:=mapf_at hu_
     obtain⟨y35,nx35,hy35,hn35,h⟩:=Hm hi35 hk35
     replace h:=Rn hb35 h
     obtain⟨_,rfl⟩:=List.getElem?_eq_some_iff.1 hy35
     generalize ys35[i35]=y35 at h ⊢
     change JC _ _ _ _ [(52,E2 y35.2),(51,.agg (Slot.cs y35.1)),(4,Eb s),(5,.dptr [E3 boxes]),(7,.dptr [G0 id_]),(13,.ptr 1034 0),(14,.ptr 1035 0),(50,.fn 104 [.dptr (H2.cs s),Ee r7.1,.dptr [E3 boxes],.dptr [E2 l]])] [(1037,.spare 71 3 s35.2.2 s35.1.length),(1034,.box 57 [.own 1037 s35.2.2 3 (s35.1.map Slot.av)]),(1035,.box 3 [G0 s35.2.1])]
     refine Jr fun hK36=>(JLh (.ptr 1036 0) (Ju 1036 3 G44 O O) O (Jf (u:=.junk) (J2 (u:=.agg (Slot.cs y35.1)) (ds:=[G0 y35.1.G4,G0 y35.1.Tier,U8 y35.1.Half]) H87 O O O O O O O O) (G8 (hK36 ?_))))
     refine Gu [(4,Eb s),(5,.dptr [E3 boxes]),(7,.dptr [G0 id_]),(13,.ptr 1034 0),(14,.ptr 1035 0),(15,Eg y35.1),(52,E2 y35.2)] [(1037,.spare 71 3 s35.2.2 s35.1.length),(1034,.box 57 [.own 1037 s35.2.2 3 (s35.1.map Slot.av)]),(1035,.box 3 [G0 s35.2.1])] 1036 rfl rfl rfl ⟨⟨_,rfl,.same⟩,⟨_,rfl,.boxEq rfl rfl⟩,⟨_,rfl,.boxEq rfl rfl⟩,G⟩ rfl (by repeat' (first | exact .ptr | constructor)) (G3 (G57 (E2 y35.2) O (G8 (Mid_go (Gp ?_)))))
     refine Jr fun hK37=>(JLh (.agg (H2.cs s)) (Gj Hh O O O) O (JLh (E3 boxes) (Gf G0c O O O) O (G57 (E2 y35.2) O (JLh (G0 id_) (Gf Gc O O O) O ?_))))
     obtain⟨r38,hr38,h⟩:=Ge h
     refine JLh (E1 r38) (Gk O (H5e F s boxes y35.2 id_ r38 hr38) Jdd ⟨O,O,O,O,O,O,O,O,G⟩) O (JLl Gq O O O fun hm58=>(G57 (Ei r38.length) O (G8 (hK37 ?_))))
     obtain⟨kj39,hkj39,h⟩:=G37 h
     refine Zy (fun j39:Nat×Int×(List Slot)=>kj39 j39=some r) (fun j39=>[(13,.ptr 1034 0),(14,.ptr 1035 0),(15,Eg y35.1),(17,Ei r38.length)]) (fun j39=>[(1037,.spare 71 3 j39.1 j39.2.2.length),(1035,.box 3 [G0 j39.2.1]),(1034,.box 57 [.own 1037 j39.1 3 (j39.2.2.map Slot.av)])]) (fun Kj39 ej39=>?_) ?_
     ·
      refine Jr fun hK40=>(JLh (.own 1037 s35.2.2 3 (s35.1.map Slot.av)) (Zi G68 O O O O) O (JLl Jt O O O fun hm60=>(JLh (BL (decide ((s35.1.length:Int)=0))) (Jx O O O) O (G57 (BL (decide ((s35.1.length:Int)=0))) O (JLo (Ei r38.length) [] O .scf G (fun hc=>G5 O O) O (JLo (G0 s35.2.1) [] O .scf G (fun hc=>Zi Gc O O O O) O (JLo (BL (decide ((r38.length:Int) < s35.2.1))) [63,64] O .scf ⟨Ua,Ua,G⟩ (fun hc=>J1 O O O) O (JLh (BL ((decide ((s35.1.length:Int)=0))||(decide ((r38.length:Int) < s35.2.1)))) (Yc O O O O) O (G8 (hK40 (JCc O h (fun h hb=>?_) (fun h hb=>?_))))))))))))
      ·
       refine G3 (G57 (Ei r38.length) O (Jf (u:=.junk) (J2 (u:=.sc (.slice none 0 0)) (ds:=[.sc (.slice none 0 0)]) J0e O O O O O O O O) (Q78 1034 0 1037 71 3 s35.2.2 O O O (cs':=[.own 1037 (s35.2.2+1) 3 (([]:List Slot).map Slot.av)]) O (Jf (u:=.junk) (J2 (u:=Ei r38.length) (ds:=[Ei r38.length]) J61 O O O O O O O O) (G8 (ej39 _ _ ((s35.2.2+1),(r38.length:Int),[]) h ⟨(.sm O O),⟨⟨_,rfl,.same⟩,⟨_,rfl,.boxL rfl ⟨.same rfl,G⟩⟩,⟨_,rfl,.boxL rfl ⟨.same rfl,G⟩⟩,G⟩,rfl⟩))))))
      ·
       refine Gn (ej39 _ _ (s35.2.2,s35.2.1,s35.1) h ⟨(.sm O O),⟨⟨_,rfl,.same⟩,⟨_,rfl,.boxL rfl ⟨.same rfl,G⟩⟩,⟨_,rfl,.boxL rfl ⟨.same rfl,G⟩⟩,G⟩,rfl⟩)
     ·intro j39 h
      replace h:=app1 hkj39 h
      refine Jr fun hK41=>(G57 (Ei r38.length) O (JLh (G0 j39.2.1) (Zi Gc O O O O) O (JLh (BL (decide ((r38.length:Int)=j39.2.1))) (Jx O O O) O (G8 (hK41 (JCc O h (fun h hb=>?_) (fun h hb=>?_)))))))
      ·
       refine G3 (JLh (.own 1037 j39.1 3 (j39.2.2.map Slot.av)) (Zi G68 O O O O) O (JLh (.agg (Slot.cs y35.1)) (Gj Q0 O O O) O (JLh (E9 [y35.1]) (Hd (xs:=[.agg (Slot.cs y35.1)]) O ⟨O,O,G⟩ Jt G44 O O O O) O ?_)))
       obtain⟨ha42,h⟩:=Hv h
       refine JLh (.own 1037 (j39.1+1) 3 ((j39.2.2++[y35.1]).map Slot.av)) (A_appendG (f:=Slot.av) (xs:=j39.2.2) (ys:=[y35.1]) O O O O Jt H8b ha42 (fun _=>O) (.inl O)) O (Jf (u:=.junk) (J2 (u:=.own 1037 (j39.1+1) 3 ((j39.2.2++[y35.1]).map Slot.av)) (ds:=[.own 1037 (j39.1+1) 3 ((j39.2.2++[y35.1]).map Slot.av)]) J0e O O O O O O O O) (G8 (e35 _ _ ((j39.2.2++[y35.1]),j39.2.1,(j39.1+1)) (app1 hn35 h) ⟨G,⟨⟨_,O,.same⟩,⟨_,O,.boxL O ⟨.same O,G⟩⟩,⟨_,O,.boxL O ⟨.same O,G⟩⟩,G⟩,O⟩)))
      ·
       refine Gn (e35 _ _ (j39.2.2,j39.2.1,j39.1) (app1 hn35 h) ⟨G,⟨⟨_,O,.same⟩,⟨_,O,.boxL O ⟨.same O,G⟩⟩,⟨_,O,.boxL O ⟨.same O,G⟩⟩,G⟩,O⟩)
    ·
     intro s35 h
     rw [List.length_map] at h
     replace h:=app1 hkx35 (Hn h (Nat.lt_irrefl _))
     refine hK16 (Js fun hK43=>Jr fun hK44=>(JLh (.own 1037 s35.2.2 3 (s35.1.map Slot.av)) (Zi G68 O O O O) O (JLl Jt O O O fun hm76=>(JLh (BL (decide ((s35.1.length:Int)=0))) (Jx O O O) O (G8 (hK44 (G2a (l':=[(13,.ptr 1034 0),(14,.ptr 1035 0),(77,BL (decide ((s35.1.length:Int)=0)))]) (L':=[(1034,.box 57 [E9 s35.1]),(1035,.box 3 [G0 s35.2.1])]) ⟨(.sm O O),⟨⟨_,O,.boxL O ⟨.list O,G⟩⟩,⟨_,O,.boxL O ⟨.same O,G⟩⟩,G⟩,O⟩ (Gu [(13,.dptr [E9 s35.1]),(14,.ptr 1035 0),(77,BL (decide ((s35.1.length:Int)=0)))] [(1035,.box 3 [G0 s35.2.1])] 1034 rfl rfl rfl ⟨⟨_,rfl,.boxEq rfl rfl⟩,G⟩ rfl (by exact⟨.ptr,.conv (.same rfl),.conv (.same rfl),G⟩) ?_))))))))
     refine Gu [(13,.dptr [E9 s35.1]),(14,.dptr [G0 s35.2.1]),(77,BL (decide ((s35.1.length:Int)=0)))] [] 1035 rfl rfl rfl G rfl (by exact⟨.conv (.same rfl),.ptr,.conv (.same rfl),G⟩) (JCc O h (fun h hb=>?_) (fun h hb=>?_))
     ·
      refine Jr fun hK45=>(JLh (E9 ([]:List Slot)) (Hb 3 O O) O (G57 (G0 0) O (G57 (G0 4) O (G8 (hK45 (Gr (⟨[E9 ([]:List Slot),G0 0,G0 4],[],G,O,⟨⟨_,O,.conv (.same O)⟩,⟨_,O,.conv (.same O)⟩,⟨_,O,.conv (.same O)⟩,G⟩,O,congrArg (fun r:(List Slot)×Int×Int=>(.tup [E9 r.1,G0 r.2.1,G0 r.2.2]:AV)) (Option.some.inj h)⟩)))))))
     ·
      refine Gn (hK43 (Js fun hK46=>JC_d0 Jg (by kernel_rfl) (Dq (E9 s35.1) (Gf G68 O O O) O (Dq (G0 s35.2.1) (Gf Gc O O O) O (Dq (E9 s35.1) (G7 O O) O (Dq (G0 s35.2.1) (G7 O O) O (Dq (G0 0) (G7 O O) O (Dnil (hK46 (Gr (⟨[E9 s35.1,G0 s35.2.1,G0 0],[],G,O,⟨⟨_,O,.conv (.same O)⟩,⟨_,O,.conv (.same O)⟩,⟨_,O,.conv (.same O)⟩,G⟩,O,congrArg (fun r:(List Slot)×Int×Int=>(.tup [E9 r.1,G0 r.2.1,G0 r.2.2]:AV)) (Option.some.inj h)⟩)))))))))))

def G54 (a:List Slot) (b:List Slot):Option Bool:=
 bif decide ((a.length:Int)≠(b.length:Int)) then
 (some false)
 else
 (each (fun y24 i24 (s24:Unit) nx24=>
   Qr b (i24:Int) fun y29=>
   bif (!decide (y24=y29)) then
   (some false)
   else
   (nx24 ()))
  (fun(s24:Unit)=>
   some true) a 0 ())
theorem H3a (a:List Slot) (b:List Slot) (r:Bool) (h:G54 a b=some r):Pure Ej 22 [E9 a,E9 b] (·=BL r):=by
 unfold G54 at h
 refine Gx [.tmp 4] Tryz.func22 O O (Jr fun hK1=>(G57 (BL false) O (G8 (hK1 (Js fun hK2=>Jr fun hK3=>(G57 (E9 a) O (JLl Jt O O O fun hm7=>(G57 (E9 b) O (JLl Jt O O O fun hm9=>(JLh (BL (decide ((a.length:Int)≠(b.length:Int)))) (G30 O O O) O (G8 (hK3 (JCc O h (fun h hb=>?_) (fun h hb=>?_))))))))))))))
 ·
  refine Jr fun hK4=>(G57 (BL false) O (G8 (hK4 (Gr (fin1 BL h)))))
 ·
  refine Gn (hK2 (Js fun hK5=>Jr fun hK6=>(G57 (G0 0) O (G8 (hK6 (Gp ?_))))))
  obtain⟨b24,kx24,hb24,hkx24,h⟩:=Hx h
  refine He (fun i24 (s24:Unit)=>each b24 kx24 (List.drop i24 a) i24 s24=some r) (fun i24 s24=>[(0,E9 a),(1,E9 b),(5,Ei i24)]) (fun i24 s24=>[]) (fun i24=>a.length - i24) 0 () h ⟨(.sm O O),G,O⟩ ?_
  clear h
  intro i24 s24 hi24 K24 e24
  refine Js fun hK25=>Jr fun hK26=>(G57 (Ei i24) O (G57 (E9 a) O (JLl Jt O O O fun hm13=>(JLh (BL (decide ((i24:Int) < (a.length:Int)))) (J1 O O O) O (G8 (hK26 (Gm O (fun hb=>?_) (fun hb=>?_))))))))
  ·
   have hk24:=Jc hb
   obtain⟨y24,nx24,hy24,hn24,h⟩:=Hm hi24 hk24
   replace h:=Rn hb24 h
   refine Gn (hK25 (Js fun hK27=>Gp (Js fun hK28=>?_)))
   obtain⟨m30,y29,hm30,hy29,h⟩:=R2 h
   refine JC_d0 Jg (by kernel_rfl) (Dq (E9 a) (G5 O O) O (Dq (Ei i24) (G5 O O) O (Dq (Eg y24) (Gw (f:=Slot.av) (xs:=a) (y:=y24) O O O Jt hy24 O) O (Dq (.agg (Slot.cs y24)) (Gj Q0 O O O) O (Dq (E9 b) (G5 O O) O (Dq (Ei i24) (G5 O O) O (Dq (Eg y29) (Gw (f:=Slot.av) (xs:=b) (y:=y29) O O O Jt hy29 hm30) O (Dq (.agg (Slot.cs y29)) (Gj Q0 O O O) O (Dq (BL (!decide (y24=y29))) (Q44 (vs:=[.int .i64 y24.G4,.int .i64 y24.Tier,.int .u8 y24.Half]) (us:=[.int .i64 y29.G4,.int .i64 y29.Tier,.int .u8 y29.Half]) 4 O (tq_71 y24 y29) J94 Q33 O O O) O (Dnil (hK28 (JCc O h (fun h hb=>?_) (fun h hb=>?_)))))))))))))
   ·
    refine Jr fun hK31=>(G57 (BL false) O (G8 (hK31 (Gr (fin1 BL h)))))
   ·
    refine Gn (hK27 (G3 (G57 (Ei i24) O (JLh (G0 ((i24+1:Nat):Int)) (Hu (Hc hk24 hm13) O O O) O (G57 (G0 ((i24+1:Nat):Int)) O (G8 (e24 _ _ (i24+1) () (app1 hn24 h) (by omega) ⟨(.sm O O),G,rfl⟩)))))))
  ·
   have h:=app1 hkx24 (Hn hi24 (H6 hb))
   refine Hk (hK5 (Jr fun hK32=>(G57 (BL true) O (G8 (hK32 (Gr (fin1 BL h)))))))

def Yi (F:Nat) :Option Bool:=
 bnd (G53) fun r3=>
 bnd (Yr 1 0 0 0) fun r6=>
 bnd (Yr 2 0 1 0) fun r7=>
 bnd (Yr 3 2 1 0) fun r8=>
 bnd (Yr 6 2 0 1) fun r9=>
 bnd (Yr 7 2 0 2) fun r10=>
 bnd (Yb F r3 [(Gg.mk 1 ByteArray.empty 40 false 0 0 1 0 false),(Gg.mk 2 ByteArray.empty 40 false 0 0 2 0 false),(Gg.mk 3 ByteArray.empty 40 false 0 0 3 0 false),(Gg.mk 4 ByteArray.empty 40 false 0 0 1 0 false),(Gg.mk 5 ByteArray.empty 40 false 0 0 1 0 false),(Gg.mk 6 ByteArray.empty 20 false 0 0 1 0 false),(Gg.mk 7 ByteArray.empty 20 false 0 0 2 0 false)] [r6,r7,r8,r9,r10] 2) fun r12=>
 bnd (Yb F r3 [(Gg.mk 1 ByteArray.empty 40 false 0 0 1 0 false),(Gg.mk 2 ByteArray.empty 40 false 0 0 2 0 false),(Gg.mk 3 ByteArray.empty 40 false 0 0 3 0 false),(Gg.mk 4 ByteArray.empty 40 false 0 0 1 0 false),(Gg.mk 5 ByteArray.empty 40 false 0 0 1 0 false),(Gg.mk 6 ByteArray.empty 20 false 0 0 1 0 false),(Gg.mk 7 ByteArray.empty 20 false 0 0 2 0 false)] [r6,r7,r8,r9,r10] 3) fun r14=>
 bnd (Yb F r3 [(Gg.mk 1 ByteArray.empty 40 false 0 0 1 0 false),(Gg.mk 2 ByteArray.empty 40 false 0 0 2 0 false),(Gg.mk 3 ByteArray.empty 40 false 0 0 3 0 false),(Gg.mk 4 ByteArray.empty 40 false 0 0 1 0 false),(Gg.mk 5 ByteArray.empty 40 false 0 0 1 0 false),(Gg.mk 6 ByteArray.empty 20 false 0 0 1 0 false),(Gg.mk 7 ByteArray.empty 20 false 0 0 2 0 false)] [r6,r7,r8,r9,r10] 7) fun r16=>
 bnd (Yh F r3 [(Gg.mk 1 ByteArray.empty 40 false 0 0 1 0 false),(Gg.mk 2 ByteArray.empty 40 false 0 0 2 0 false),(Gg.mk 3 ByteArray.empty 40 false 0 0 3 0 false),(Gg.mk 4 ByteArray.empty 40 false 0 0 1 0 false),(Gg.mk 5 ByteArray.empty 40 false 0 0 1 0 false),(Gg.mk 6 ByteArray.empty 20 false 0 0 1 0 false),(Gg.mk 7 ByteArray.empty 20 false 0 0 2 0 false)] [r6,r7,r8,r9,r10]) fun r18=>
 bnd (Z4 F r3 [(Gg.mk 1 ByteArray.empty 40 false 0 0 1 0 false),(Gg.mk 2 ByteArray.empty 40 false 0 0 2 0 false),(Gg.mk 3 ByteArray.empty 40 false 0 0 3 0 false),(Gg.mk 4 ByteArray.empty 40 false 0 0 1 0 false),(Gg.mk 5 ByteArray.empty 40 false 0 0 1 0 false),(Gg.mk 6 ByteArray.empty 20 false 0 0 1 0 false),(Gg.mk 7 ByteArray.empty 20 false 0 0 2 0 false)] [r6,r7,r8,r9,r10]) fun r20=>
 bnd (H43 F r3 [(Gg.mk 1 ByteArray.empty 40 false 0 0 1 0 false),(Gg.mk 2 ByteArray.empty 40 false 0 0 2 0 false),(Gg.mk 3 ByteArray.empty 40 false 0 0 3 0 false),(Gg.mk 4 ByteArray.empty 40 false 0 0 1 0 false),(Gg.mk 5 ByteArray.empty 40 false 0 0 1 0 false),(Gg.mk 6 ByteArray.empty 20 false 0 0 1 0 false),(Gg.mk 7 ByteArray.empty 20 false 0 0 2 0 false)] [r6,r7,r8,r9,r10] 4) fun r22=>
 G35 (r12.2+r14.2) fun v25=>
 G35 (v25+r16.2) fun v26=>
 G35 (v26+r18.2) fun v27=>
 G35 (v27+r20.2.2.2) fun v28=>
 G35 (v28+r22.2.2) fun v29=>
 bnd (bif (!(decide (v29≠0))) then J0 r12.1 [1] else some default) fun r30=>
 bnd (bif (!((decide (v29≠0))||(!r30))) then J0 r14.1 [1,2,6,7] else some default) fun r31=>
 bnd (bif (!(((decide (v29≠0))||(!r30))||(!r31))) then J0 r16.1 [1] else some default) fun r32=>
 bnd (bif (!((((decide (v29≠0))||(!r30))||(!r31))||(!r32))) then J0 r18.1 [2,3,7] else some default) fun r33=>
 bif (((((decide (v29≠0))||(!r30))||(!r31))||(!r32))||(!r33)) then
 (some false)
 else
 (bnd (bif decide (r20.1=1) then J0 r20.2.1 [1,6] else some default) fun r36=>
  bnd (bif ((decide (r20.1=1))&&r36) then J0 r20.2.2.1 [2,3,7] else some default) fun r37=>
  bnd (bif ((((decide (r20.1=1))&&r36)&&r37)&&(decide (r22.2.1=0))) then G54 r22.1 [(Slot.mk 2 2 0),(Slot.mk 3 0 0),(Slot.mk 4 0 0)] else some default) fun r38=>
  some (((((decide (r20.1=1))&&r36)&&r37)&&(decide (r22.2.1=0)))&&r38))
theorem Ga7 (F:Nat)  (r:Bool) (h:Yi F =some r):Pure Ej 6 [] (·=BL r):=by
 unfold Yi at h
 refine Gx [.tmp 0] Tryz.func6 O O (Jr fun hK1=>(G57 (BL false) O (G8 (hK1 (Jr fun hK2=>?_)))))
 obtain⟨r3,hr3,h⟩:=Ge h
 refine JLh (.agg (H2.cs r3)) (Gk O (H38  r3 hr3) Qad G) O (JLh (.ptr 1006 0) (Ju 1006 13 J82 O O) O (Jf (u:=.junk) (J2 (u:=.agg (H2.cs r3)) (ds:=(H2.cs r3)) H88 O O O O O O O O) (G8 (hK2 (Gu [(1,Eb r3)] [] 1006 rfl rfl rfl G rfl (by exact⟨.ptr,G⟩) ?_)))))
 refine Jr fun hK4=>(JLh (.agg [G0 1,ST ByteArray.empty,U8 40,BL false,G0 0,G0 0,G0 1,U8 0,BL false]) (Jj (cs:=[G0 1,ST ByteArray.empty,U8 40,BL false,G0 0,G0 0,G0 1,U8 0,BL false]) [(0,1),(1,1),(2,1),(3,1),(4,1),(5,1),(6,1),(7,1),(8,1)] [G0 0,ST ByteArray.empty,U8 0,BL false,G0 0,G0 0,G0 0,U8 0,BL false] [E0,.string ByteArray.empty,.int .u8 0,.bool false,E0,E0,E0,.int .u8 0,.bool false] G0d G05 ⟨.inl O,.inl O,.inl O,.inl O,.inl O,.inl O,.inl O,.inl O,.inl O,G⟩ O O) O (JLh (.agg [G0 2,ST ByteArray.empty,U8 40,BL false,G0 0,G0 0,G0 2,U8 0,BL false]) (Jj (cs:=[G0 2,ST ByteArray.empty,U8 40,BL false,G0 0,G0 0,G0 2,U8 0,BL false]) [(0,1),(1,1),(2,1),(3,1),(4,1),(5,1),(6,1),(7,1),(8,1)] [G0 0,ST ByteArray.empty,U8 0,BL false,G0 0,G0 0,G0 0,U8 0,BL false] [E0,.string ByteArray.empty,.int .u8 0,.bool false,E0,E0,E0,.int .u8 0,.bool false] G0d G05 ⟨.inl O,.inl O,.inl O,.inl O,.inl O,.inl O,.inl O,.inl O,.inl O,G⟩ O O) O (JLh (.agg [G0 3,ST ByteArray.empty,U8 40,BL false,G0 0,G0 0,G0 3,U8 0,BL false]) (Jj (cs:=[G0 3,ST ByteArray.empty,U8 40,BL false,G0 0,G0 0,G0 3,U8 0,BL false]) [(0,1),(1,1),(2,1),(3,1),(4,1),(5,1),(6,1),(7,1),(8,1)] [G0 0,ST ByteArray.empty,U8 0,BL false,G0 0,G0 0,G0 0,U8 0,BL false] [E0,.string ByteArray.empty,.int .u8 0,.bool false,E0,E0,E0,.int .u8 0,.bool false] G0d G05 ⟨.inl O,.inl O,.inl O,.inl O,.inl O,.inl O,.inl O,.inl O,.inl O,G⟩ O O) O (JLh (.agg [G0 4,ST ByteArray.empty,U8 40,BL false,G0 0,G0 0,G0 1,U8 0,BL false]) (Jj (cs:=[G0 4,ST ByteArray.empty,U8 40,BL false,G0 0,G0 0,G0 1,U8 0,BL false]) [(0,1),(1,1),(2,1),(3,1),(4,1),(5,1),(6,1),(7,1),(8,1)] [G0 0,ST ByteArray.empty,U8 0,BL false,G0 0,G0 0,G0 0,U8 0,BL false] [E0,.string ByteArray.empty,.int .u8 0,.bool false,E0,E0,E0,.int .u8 0,.bool false] G0d G05 ⟨.inl O,.inl O,.inl O,.inl O,.inl O,.inl O,.inl O,.inl O,.inl O,G⟩ O O) O (JLh (.agg [G0 5,ST ByteArray.empty,U8 40,BL false,G0 0,G0 0,G0 1,U8 0,BL false]) (Jj (cs:=[G0 5,ST ByteArray.empty,U8 40,BL false,G0 0,G0 0,G0 1,U8 0,BL false]) [(0,1),(1,1),(2,1),(3,1),(4,1),(5,1),(6,1),(7,1),(8,1)] [G0 0,ST ByteArray.empty,U8 0,BL false,G0 0,G0 0,G0 0,U8 0,BL false] [E0,.string ByteArray.empty,.int .u8 0,.bool false,E0,E0,E0,.int .u8 0,.bool false] G0d G05 ⟨.inl O,.inl O,.inl O,.inl O,.inl O,.inl O,.inl O,.inl O,.inl O,G⟩ O O) O (JLh (.agg [G0 6,ST ByteArray.empty,U8 20,BL false,G0 0,G0 0,G0 1,U8 0,BL false]) (Jj (cs:=[G0 6,ST ByteArray.empty,U8 20,BL false,G0 0,G0 0,G0 1,U8 0,BL false]) [(0,1),(1,1),(2,1),(3,1),(4,1),(5,1),(6,1),(7,1),(8,1)] [G0 0,ST ByteArray.empty,U8 0,BL false,G0 0,G0 0,G0 0,U8 0,BL false] [E0,.string ByteArray.empty,.int .u8 0,.bool false,E0,E0,E0,.int .u8 0,.bool false] G0d G05 ⟨.inl O,.inl O,.inl O,.inl O,.inl O,.inl O,.inl O,.inl O,.inl O,G⟩ O O) O (JLh (.agg [G0 7,ST ByteArray.empty,U8 20,BL false,G0 0,G0 0,G0 2,U8 0,BL false]) (Jj (cs:=[G0 7,ST ByteArray.empty,U8 20,BL false,G0 0,G0 0,G0 2,U8 0,BL false]) [(0,1),(1,1),(2,1),(3,1),(4,1),(5,1),(6,1),(7,1),(8,1)] [G0 0,ST ByteArray.empty,U8 0,BL false,G0 0,G0 0,G0 0,U8 0,BL false] [E0,.string ByteArray.empty,.int .u8 0,.bool false,E0,E0,E0,.int .u8 0,.bool false] G0d G05 ⟨.inl O,.inl O,.inl O,.inl O,.inl O,.inl O,.inl O,.inl O,.inl O,G⟩ O O) O (JLh (E3 [(Gg.mk 1 ByteArray.empty 40 false 0 0 1 0 false),(Gg.mk 2 ByteArray.empty 40 false 0 0 2 0 false),(Gg.mk 3 ByteArray.empty 40 false 0 0 3 0 false),(Gg.mk 4 ByteArray.empty 40 false 0 0 1 0 false),(Gg.mk 5 ByteArray.empty 40 false 0 0 1 0 false),(Gg.mk 6 ByteArray.empty 20 false 0 0 1 0 false),(Gg.mk 7 ByteArray.empty 20 false 0 0 2 0 false)]) (Hd (xs:=[.agg [G0 1,ST ByteArray.empty,U8 40,BL false,G0 0,G0 0,G0 1,U8 0,BL false],.agg [G0 2,ST ByteArray.empty,U8 40,BL false,G0 0,G0 0,G0 2,U8 0,BL false],.agg [G0 3,ST ByteArray.empty,U8 40,BL false,G0 0,G0 0,G0 3,U8 0,BL false],.agg [G0 4,ST ByteArray.empty,U8 40,BL false,G0 0,G0 0,G0 1,U8 0,BL false],.agg [G0 5,ST ByteArray.empty,U8 40,BL false,G0 0,G0 0,G0 1,U8 0,BL false],.agg [G0 6,ST ByteArray.empty,U8 20,BL false,G0 0,G0 0,G0 1,U8 0,BL false],.agg [G0 7,ST ByteArray.empty,U8 20,BL false,G0 0,G0 0,G0 2,U8 0,BL false]]) O ⟨O,O,O,O,O,O,O,O,O,O,O,O,O,O,G⟩ Jv G2b O O O O) O (G57 (E3 [(Gg.mk 1 ByteArray.empty 40 false 0 0 1 0 false),(Gg.mk 2 ByteArray.empty 40 false 0 0 2 0 false),(Gg.mk 3 ByteArray.empty 40 false 0 0 3 0 false),(Gg.mk 4 ByteArray.empty 40 false 0 0 1 0 false),(Gg.mk 5 ByteArray.empty 40 false 0 0 1 0 false),(Gg.mk 6 ByteArray.empty 20 false 0 0 1 0 false),(Gg.mk 7 ByteArray.empty 20 false 0 0 2 0 false)]) O (G8 (hK4 ?_)))))))))))
 refine Jr fun hK5=>?_
 obtain⟨r6,hr6,h⟩:=Ge h
 refine JLh (.agg (Stowed.cs r6)) (Gk O (G04 1 0 0 0 r6 hr6) H24 ⟨O,O,O,O,O,O,O,O,G⟩) O ?_
 obtain⟨r7,hr7,h⟩:=Ge h
 refine JLh (.agg (Stowed.cs r7)) (Gk O (G04 2 0 1 0 r7 hr7) H24 ⟨O,O,O,O,O,O,O,O,G⟩) O ?_
 obtain⟨r8,hr8,h⟩:=Ge h
 refine JLh (.agg (Stowed.cs r8)) (Gk O (G04 3 2 1 0 r8 hr8) H24 ⟨O,O,O,O,O,O,O,O,G⟩) O ?_
 obtain⟨r9,hr9,h⟩:=Ge h
 refine JLh (.agg (Stowed.cs r9)) (Gk O (G04 6 2 0 1 r9 hr9) H24 ⟨O,O,O,O,O,O,O,O,G⟩) O ?_
 obtain⟨r10,hr10,h⟩:=Ge h
 refine JLh (.agg (Stowed.cs r10)) (Gk O (G04 7 2 0 2 r10 hr10) H24 ⟨O,O,O,O,O,O,O,O,G⟩) O (JLh (E2 [r6,r7,r8,r9,r10]) (Hd (xs:=[.agg (Stowed.cs r6),.agg (Stowed.cs r7),.agg (Stowed.cs r8),.agg (Stowed.cs r9),.agg (Stowed.cs r10)]) O ⟨O,O,O,O,O,O,O,O,O,O,G⟩ H0 G13 O O O O) O (G57 (E2 [r6,r7,r8,r9,r10]) O (G8 (hK5 ?_))))
 refine Jr fun hK11=>(JLh (.agg (H2.cs r3)) (Gj Hh O O O) O (G57 (E3 [(Gg.mk 1 ByteArray.empty 40 false 0 0 1 0 false),(Gg.mk 2 ByteArray.empty 40 false 0 0 2 0 false),(Gg.mk 3 ByteArray.empty 40 false 0 0 3 0 false),(Gg.mk 4 ByteArray.empty 40 false 0 0 1 0 false),(Gg.mk 5 ByteArray.empty 40 false 0 0 1 0 false),(Gg.mk 6 ByteArray.empty 20 false 0 0 1 0 false),(Gg.mk 7 ByteArray.empty 20 false 0 0 2 0 false)]) O (G57 (E2 [r6,r7,r8,r9,r10]) O ?_)))
 obtain⟨r12,hr12,h⟩:=Ge h
 refine JLh (.tup [E1 r12.1,G0 r12.2]) (Gk O (G7d F r3 [(Gg.mk 1 ByteArray.empty 40 false 0 0 1 0 false),(Gg.mk 2 ByteArray.empty 40 false 0 0 2 0 false),(Gg.mk 3 ByteArray.empty 40 false 0 0 3 0 false),(Gg.mk 4 ByteArray.empty 40 false 0 0 1 0 false),(Gg.mk 5 ByteArray.empty 40 false 0 0 1 0 false),(Gg.mk 6 ByteArray.empty 20 false 0 0 1 0 false),(Gg.mk 7 ByteArray.empty 20 false 0 0 2 0 false)] [r6,r7,r8,r9,r10] 2 r12 hr12) H8e ⟨O,O,O,O,O,O,O,O,G⟩) O (G57 (.tup [E1 r12.1,G0 r12.2]) O (JLh (E1 r12.1) (H9 O O O) O (JLh (G0 r12.2) (H9 O O O) O (G57 (E1 r12.1) O (G57 (G0 r12.2) O (G8 (hK11 ?_)))))))
 refine Jr fun hK13=>(JLh (.agg (H2.cs r3)) (Gj Hh O O O) O (G57 (E3 [(Gg.mk 1 ByteArray.empty 40 false 0 0 1 0 false),(Gg.mk 2 ByteArray.empty 40 false 0 0 2 0 false),(Gg.mk 3 ByteArray.empty 40 false 0 0 3 0 false),(Gg.mk 4 ByteArray.empty 40 false 0 0 1 0 false),(Gg.mk 5 ByteArray.empty 40 false 0 0 1 0 false),(Gg.mk 6 ByteArray.empty 20 false 0 0 1 0 false),(Gg.mk 7 ByteArray.empty 20 false 0 0 2 0 false)]) O (G57 (E2 [r6,r7,r8,r9,r10]) O ?_)))
 obtain⟨r14,hr14,h⟩:=Ge h
 refine JLh (.tup [E1 r14.1,G0 r14.2]) (Gk O (G7d F r3 [(Gg.mk 1 ByteArray.empty 40 false 0 0 1 0 false),(Gg.mk 2 ByteArray.empty 40 false 0 0 2 0 false),(Gg.mk 3 ByteArray.empty 40 false 0 0 3 0 false),(Gg.mk 4 ByteArray.empty 40 false 0 0 1 0 false),(Gg.mk 5 ByteArray.empty 40 false 0 0 1 0 false),(Gg.mk 6 ByteArray.empty 20 false 0 0 1 0 false),(Gg.mk 7 ByteArray.empty 20 false 0 0 2 0 false)] [r6,r7,r8,r9,r10] 3 r14 hr14) H8e ⟨O,O,O,O,O,O,O,O,G⟩) O (G57 (.tup [E1 r14.1,G0 r14.2]) O (JLh (E1 r14.1) (H9 O O O) O (JLh (G0 r14.2) (H9 O O O) O (G57 (E1 r14.1) O (G57 (G0 r14.2) O (G8 (hK13 ?_)))))))
 refine Jr fun hK15=>(JLh (.agg (H2.cs r3)) (Gj Hh O O O) O (G57 (E3 [(Gg.mk 1 ByteArray.empty 40 false 0 0 1 0 false),(Gg.mk 2 ByteArray.empty 40 false 0 0 2 0 false),(Gg.mk 3 ByteArray.empty 40 false 0 0 3 0 false),(Gg.mk 4 ByteArray.empty 40 false 0 0 1 0 false),(Gg.mk 5 ByteArray.empty 40 false 0 0 1 0 false),(Gg.mk 6 ByteArray.empty 20 false 0 0 1 0 false),(Gg.mk 7 ByteArray.empty 20 false 0 0 2 0 false)]) O (G57 (E2 [r6,r7,r8,r9,r10]) O ?_)))
 obtain⟨r16,hr16,h⟩:=Ge h
 refine JLh (.tup [E1 r16.1,G0 r16.2]) (Gk O (G7d F r3 [(Gg.mk 1 ByteArray.empty 40 false 0 0 1 0 false),(Gg.mk 2 ByteArray.empty 40 false 0 0 2 0 false),(Gg.mk 3 ByteArray.empty 40 false 0 0 3 0 false),(Gg.mk 4 ByteArray.empty 40 false 0 0 1 0 false),(Gg.mk 5 ByteArray.empty 40 false 0 0 1 0 false),(Gg.mk 6 ByteArray.empty 20 false 0 0 1 0 false),(Gg.mk 7 ByteArray.empty 20 false 0 0 2 0 false)] [r6,r7,r8,r9,r10] 7 r16 hr16) H8e ⟨O,O,O,O,O,O,O,O,G⟩) O (G57 (.tup [E1 r16.1,G0 r16.2]) O (JLh (E1 r16.1) (H9 O O O) O (JLh (G0 r16.2) (H9 O O O) O (G57 (E1 r16.1) O (G57 (G0 r16.2) O (G8 (hK15 ?_)))))))
 refine Jr fun hK17=>(JLh (.agg (H2.cs r3)) (Gj Hh O O O) O (G57 (E3 [(Gg.mk 1 ByteArray.empty 40 false 0 0 1 0 false),(Gg.mk 2 ByteArray.empty 40 false 0 0 2 0 false),(Gg.mk 3 ByteArray.empty 40 false 0 0 3 0 false),(Gg.mk 4 ByteArray.empty 40 false 0 0 1 0 false),(Gg.mk 5 ByteArray.empty 40 false 0 0 1 0 false),(Gg.mk 6 ByteArray.empty 20 false 0 0 1 0 false),(Gg.mk 7 ByteArray.empty 20 false 0 0 2 0 false)]) O (G57 (E2 [r6,r7,r8,r9,r10]) O ?_)))
 obtain⟨r18,hr18,h⟩:=Ge h
 refine JLh (.tup [E1 r18.1,G0 r18.2]) (Gk O (H34.down F r3 [(Gg.mk 1 ByteArray.empty 40 false 0 0 1 0 false),(Gg.mk 2 ByteArray.empty 40 false 0 0 2 0 false),(Gg.mk 3 ByteArray.empty 40 false 0 0 3 0 false),(Gg.mk 4 ByteArray.empty 40 false 0 0 1 0 false),(Gg.mk 5 ByteArray.empty 40 false 0 0 1 0 false),(Gg.mk 6 ByteArray.empty 20 false 0 0 1 0 false),(Gg.mk 7 ByteArray.empty 20 false 0 0 2 0 false)] [r6,r7,r8,r9,r10] r18 hr18) Je2 ⟨O,O,O,O,O,O,G⟩) O (G57 (.tup [E1 r18.1,G0 r18.2]) O (JLh (E1 r18.1) (H9 O O O) O (JLh (G0 r18.2) (H9 O O O) O (G57 (E1 r18.1) O (G57 (G0 r18.2) O (G8 (hK17 ?_)))))))
 refine Jr fun hK19=>(JLh (.agg (H2.cs r3)) (Gj Hh O O O) O (G57 (E3 [(Gg.mk 1 ByteArray.empty 40 false 0 0 1 0 false),(Gg.mk 2 ByteArray.empty 40 false 0 0 2 0 false),(Gg.mk 3 ByteArray.empty 40 false 0 0 3 0 false),(Gg.mk 4 ByteArray.empty 40 false 0 0 1 0 false),(Gg.mk 5 ByteArray.empty 40 false 0 0 1 0 false),(Gg.mk 6 ByteArray.empty 20 false 0 0 1 0 false),(Gg.mk 7 ByteArray.empty 20 false 0 0 2 0 false)]) O (G57 (E2 [r6,r7,r8,r9,r10]) O ?_)))
 obtain⟨r20,hr20,h⟩:=Ge h
 refine JLh (.tup [G0 r20.1,E1 r20.2.1,E1 r20.2.2.1,G0 r20.2.2.2]) (Gk O (H5f F r3 [(Gg.mk 1 ByteArray.empty 40 false 0 0 1 0 false),(Gg.mk 2 ByteArray.empty 40 false 0 0 2 0 false),(Gg.mk 3 ByteArray.empty 40 false 0 0 3 0 false),(Gg.mk 4 ByteArray.empty 40 false 0 0 1 0 false),(Gg.mk 5 ByteArray.empty 40 false 0 0 1 0 false),(Gg.mk 6 ByteArray.empty 20 false 0 0 1 0 false),(Gg.mk 7 ByteArray.empty 20 false 0 0 2 0 false)] [r6,r7,r8,r9,r10] r20 hr20) Je1 ⟨O,O,O,O,O,O,G⟩) O (G57 (.tup [G0 r20.1,E1 r20.2.1,E1 r20.2.2.1,G0 r20.2.2.2]) O (JLh (G0 r20.1) (H9 O O O) O (JLh (E1 r20.2.1) (H9 O O O) O (JLh (E1 r20.2.2.1) (H9 O O O) O (JLh (G0 r20.2.2.2) (H9 O O O) O (G57 (G0 r20.1) O (G57 (E1 r20.2.1) O (G57 (E1 r20.2.2.1) O (G57 (G0 r20.2.2.2) O (G8 (hK19 ?_)))))))))))
 refine Jr fun hK21=>(JLh (.agg (H2.cs r3)) (Gj Hh O O O) O (G57 (E3 [(Gg.mk 1 ByteArray.empty 40 false 0 0 1 0 false),(Gg.mk 2 ByteArray.empty 40 false 0 0 2 0 false),(Gg.mk 3 ByteArray.empty 40 false 0 0 3 0 false),(Gg.mk 4 ByteArray.empty 40 false 0 0 1 0 false),(Gg.mk 5 ByteArray.empty 40 false 0 0 1 0 false),(Gg.mk 6 ByteArray.empty 20 false 0 0 1 0 false),(Gg.mk 7 ByteArray.empty 20 false 0 0 2 0 false)]) O (G57 (E2 [r6,r7,r8,r9,r10]) O ?_)))
 obtain⟨r22,hr22,h⟩:=Ge h
 refine JLh (.tup [E9 r22.1,G0 r22.2.1,G0 r22.2.2]) (Gk O (J7e F r3 [(Gg.mk 1 ByteArray.empty 40 false 0 0 1 0 false),(Gg.mk 2 ByteArray.empty 40 false 0 0 2 0 false),(Gg.mk 3 ByteArray.empty 40 false 0 0 3 0 false),(Gg.mk 4 ByteArray.empty 40 false 0 0 1 0 false),(Gg.mk 5 ByteArray.empty 40 false 0 0 1 0 false),(Gg.mk 6 ByteArray.empty 20 false 0 0 1 0 false),(Gg.mk 7 ByteArray.empty 20 false 0 0 2 0 false)] [r6,r7,r8,r9,r10] 4 r22 hr22) Qaf ⟨O,O,O,O,O,O,O,O,G⟩) O (G57 (.tup [E9 r22.1,G0 r22.2.1,G0 r22.2.2]) O (JLh (E9 r22.1) (H9 O O O) O (JLh (G0 r22.2.1) (H9 O O O) O (JLh (G0 r22.2.2) (H9 O O O) O (G57 (E9 r22.1) O (G57 (G0 r22.2.1) O (G57 (G0 r22.2.2) O (G8 (hK21 (Js fun hK23=>Jr fun hK24=>(G57 (G0 r12.2) O (G57 (G0 r14.2) O ?_))))))))))))
 obtain⟨v25,hv25,h⟩:=Qj h
 refine JLh (G0 v25) (Hu hv25 O O O) O (G57 (G0 r16.2) O ?_)
 obtain⟨v26,hv26,h⟩:=Qj h
 refine JLh (G0 v26) (Hu hv26 O O O) O (G57 (G0 r18.2) O ?_)
 obtain⟨v27,hv27,h⟩:=Qj h
 refine JLh (G0 v27) (Hu hv27 O O O) O (G57 (G0 r20.2.2.2) O ?_)
 obtain⟨v28,hv28,h⟩:=Qj h
 refine JLh (G0 v28) (Hu hv28 O O O) O (G57 (G0 r22.2.2) O ?_)
 obtain⟨v29,hv29,h⟩:=Qj h
 refine JLh (G0 v29) (Hu hv29 O O O) O (JLh (BL (decide (v29≠0))) (G30 O O O) O (G57 (BL (decide (v29≠0))) O (JLo (E1 r12.1) [] O .scf G (fun hc=>G5 O O) O (JLo (E1 [1]) [] O .scf G (fun hc=>Hd (xs:=[G0 1]) O ⟨O,O,G⟩ Gq Q1 O O O O) O ?_))))
 obtain⟨r30,hr30,h⟩:=Ge h
 refine JLo (BL r30) [92,93] O .scf ⟨Ua,Ua,G⟩ (fun hc=>Gk (args:=[E1 r12.1,E1 [1]]) O (J9 r12.1 [1] r30 (Gy hc hr30)) G07 ⟨O,O,O,O,G⟩) O (JLo (BL (!r30)) [94] O .scf ⟨Ua,G⟩ (fun hc=>Qh (b:=r30) O O) O (JLh (BL ((decide (v29≠0))||(!r30))) (Yc O O O O) O (G57 (BL ((decide (v29≠0))||(!r30))) O (JLo (E1 r14.1) [] O .scf G (fun hc=>G5 O O) O (JLo (E1 [1,2,6,7]) [] O .scf G (fun hc=>Hd (xs:=[G0 1,G0 2,G0 6,G0 7]) O ⟨O,O,O,O,O,O,O,O,G⟩ Gq Q1 O O O O) O ?_)))))
 obtain⟨r31,hr31,h⟩:=Ge h
 refine JLo (BL r31) [98,99] O .scf ⟨Ua,Ua,G⟩ (fun hc=>Gk (args:=[E1 r14.1,E1 [1,2,6,7]]) O (J9 r14.1 [1,2,6,7] r31 (Gy hc hr31)) G07 ⟨O,O,O,O,G⟩) O (JLo (BL (!r31)) [100] O .scf ⟨Ua,G⟩ (fun hc=>Qh (b:=r31) O O) O (JLh (BL (((decide (v29≠0))||(!r30))||(!r31))) (Yc O O O O) O (G57 (BL (((decide (v29≠0))||(!r30))||(!r31))) O (JLo (E1 r16.1) [] O .scf G (fun hc=>G5 O O) O (JLo (E1 [1]) [] O .scf G (fun hc=>Hd (xs:=[G0 1]) O ⟨O,O,G⟩ Gq Q1 O O O O) O ?_)))))
 obtain⟨r32,hr32,h⟩:=Ge h
 refine JLo (BL r32) [104,105] O .scf ⟨Ua,Ua,G⟩ (fun hc=>Gk (args:=[E1 r16.1,E1 [1]]) O (J9 r16.1 [1] r32 (Gy hc hr32)) G07 ⟨O,O,O,O,G⟩) O (JLo (BL (!r32)) [106] O .scf ⟨Ua,G⟩ (fun hc=>Qh (b:=r32) O O) O (JLh (BL ((((decide (v29≠0))||(!r30))||(!r31))||(!r32))) (Yc O O O O) O (G57 (BL ((((decide (v29≠0))||(!r30))||(!r31))||(!r32))) O (JLo (E1 r18.1) [] O .scf G (fun hc=>G5 O O) O (JLo (E1 [2,3,7]) [] O .scf G (fun hc=>Hd (xs:=[G0 2,G0 3,G0 7]) O ⟨O,O,O,O,O,O,G⟩ Gq Q1 O O O O) O ?_)))))
 obtain⟨r33,hr33,h⟩:=Ge h
 refine JLo (BL r33) [110,111] O .scf ⟨Ua,Ua,G⟩ (fun hc=>Gk (args:=[E1 r18.1,E1 [2,3,7]]) O (J9 r18.1 [2,3,7] r33 (Gy hc hr33)) G07 ⟨O,O,O,O,G⟩) O (JLo (BL (!r33)) [112] O .scf ⟨Ua,G⟩ (fun hc=>Qh (b:=r33) O O) O (JLh (BL (((((decide (v29≠0))||(!r30))||(!r31))||(!r32))||(!r33))) (Yc O O O O) O (G8 (hK24 (JCc O h (fun h hb=>?_) (fun h hb=>?_))))))
 ·
  refine Jr fun hK34=>(G57 (BL false) O (G8 (hK34 (Gr (fin1 BL h)))))
 ·
  refine Gn (hK23 (Jr fun hK35=>(G57 (G0 r20.1) O (JLh (BL (decide (r20.1=1))) (Jx O O O) O (G57 (BL (decide (r20.1=1))) O (JLo (E1 r20.2.1) [] O .sct G (fun hc=>G5 O O) O (JLo (E1 [1,6]) [] O .sct G (fun hc=>Hd (xs:=[G0 1,G0 6]) O ⟨O,O,O,O,G⟩ Gq Q1 O O O O) O ?_)))))))
  obtain⟨r36,hr36,h⟩:=Ge h
  refine JLo (BL r36) [118,119] O .sct ⟨Ua,Ua,G⟩ (fun hc=>Gk (args:=[E1 r20.2.1,E1 [1,6]]) O (J9 r20.2.1 [1,6] r36 (Gy hc hr36)) G07 ⟨O,O,O,O,G⟩) O (JLh (BL ((decide (r20.1=1))&&r36)) (J5 O O O O) O (G57 (BL ((decide (r20.1=1))&&r36)) O (JLo (E1 r20.2.2.1) [] O .sct G (fun hc=>G5 O O) O (JLo (E1 [2,3,7]) [] O .sct G (fun hc=>Hd (xs:=[G0 2,G0 3,G0 7]) O ⟨O,O,O,O,O,O,G⟩ Gq Q1 O O O O) O ?_))))
  obtain⟨r37,hr37,h⟩:=Ge h
  refine JLo (BL r37) [123,124] O .sct ⟨Ua,Ua,G⟩ (fun hc=>Gk (args:=[E1 r20.2.2.1,E1 [2,3,7]]) O (J9 r20.2.2.1 [2,3,7] r37 (Gy hc hr37)) G07 ⟨O,O,O,O,G⟩) O (JLh (BL (((decide (r20.1=1))&&r36)&&r37)) (J5 O O O O) O (G57 (BL (((decide (r20.1=1))&&r36)&&r37)) O (JLo (G0 r22.2.1) [] O .sct G (fun hc=>G5 O O) O (JLo (BL (decide (r22.2.1=0))) [128] O .sct ⟨Ua,G⟩ (fun hc=>Jx O O O) O (JLh (BL ((((decide (r20.1=1))&&r36)&&r37)&&(decide (r22.2.1=0)))) (J5 O O O O) O (G57 (BL ((((decide (r20.1=1))&&r36)&&r37)&&(decide (r22.2.1=0)))) O (JLo (E9 r22.1) [] O .sct G (fun hc=>G5 O O) O (JLo (.agg [G0 2,G0 2,U8 0]) [] O .sct G (fun hc=>Jj (cs:=[G0 2,G0 2,U8 0]) [(0,1),(1,1),(2,1)] [G0 0,G0 0,U8 0] [E0,E0,.int .u8 0] G91 Gda ⟨.inl O,.inl O,.inl O,G⟩ O O) O (JLo (.agg [G0 3,G0 0,U8 0]) [] O .sct G (fun hc=>Jj (cs:=[G0 3,G0 0,U8 0]) [(0,1),(1,1),(2,1)] [G0 0,G0 0,U8 0] [E0,E0,.int .u8 0] G91 Gda ⟨.inl O,.inl O,.inl O,G⟩ O O) O (JLo (.agg [G0 4,G0 0,U8 0]) [] O .sct G (fun hc=>Jj (cs:=[G0 4,G0 0,U8 0]) [(0,1),(1,1),(2,1)] [G0 0,G0 0,U8 0] [E0,E0,.int .u8 0] G91 Gda ⟨.inl O,.inl O,.inl O,G⟩ O O) O (JLo (E9 [(Slot.mk 2 2 0),(Slot.mk 3 0 0),(Slot.mk 4 0 0)]) [133,134,135] O .sct ⟨Ua,Ua,Ua,G⟩ (fun hc=>Hd (xs:=[.agg [G0 2,G0 2,U8 0],.agg [G0 3,G0 0,U8 0],.agg [G0 4,G0 0,U8 0]]) O ⟨O,O,O,O,O,O,G⟩ Jt G44 O O O O) O ?_)))))))))))
  obtain⟨r38,hr38,h⟩:=Ge h
  refine JLo (BL r38) [132,136] O .sct ⟨Ua,Ua,G⟩ (fun hc=>Gk (args:=[E9 r22.1,E9 [(Slot.mk 2 2 0),(Slot.mk 3 0 0),(Slot.mk 4 0 0)]]) O (H3a r22.1 [(Slot.mk 2 2 0),(Slot.mk 3 0 0),(Slot.mk 4 0 0)] r38 (Gy hc hr38)) Qae ⟨O,O,O,O,G⟩) O (JLh (BL (((((decide (r20.1=1))&&r36)&&r37)&&(decide (r22.2.1=0)))&&r38)) (J5 O O O O) O (G57 (BL (((((decide (r20.1=1))&&r36)&&r37)&&(decide (r22.2.1=0)))&&r38)) O (G8 (hK35 (Gr (fin1 BL h))))))

def Hz (n:Int) (low:Int) (high:Int):Option Bool:=
 some ((decide (low≤n))&&(decide (n≤high)))
theorem J8 (n:Int) (low:Int) (high:Int) (r:Bool) (h:Hz n low high=some r):Pure Ej 122 [G0 n,G0 low,G0 high] (·=BL r):=by
 unfold Hz at h
 refine Gx [.tmp 6] Tryz.func122 O O (Jr fun hK1=>(G57 (BL false) O (G8 (hK1 (Jr fun hK2=>(G57 (G0 n) O (G57 (G0 low) O (JLh (BL (decide (low≤n))) (G31 O O O) O (G57 (BL (decide (low≤n))) O (JLo (G0 n) [] O .sct G (fun hc=>G5 O O) O (JLo (G0 high) [] O .sct G (fun hc=>G5 O O) O (JLo (BL (decide (n≤high))) [11,12] O .sct ⟨Ua,Ua,G⟩ (fun hc=>He6 O O O) O (JLh (BL ((decide (low≤n))&&(decide (n≤high)))) (J5 O O O O) O (G57 (BL ((decide (low≤n))&&(decide (n≤high)))) O (G8 (hK2 (Gr (fin1 BL h))))))))))))))))))

def Za (c:G4):Option Bool:=
 each (fun y41 i41 (s41:Unit) nx41=>
  bif ((decide (y41 < 0))||(decide (c.Tiers≤y41))) then
  (some false)
  else
  (bnd (bif decide (0 < (i41:Int)) then G35 ((i41:Int) - 1) some else some 0) fun v49=>
   bnd (bif decide (0 < (i41:Int)) then Qr c.Plugs v49 some else some default) fun y50=>
   bif ((decide (0 < (i41:Int)))&&(decide (y41≤y50))) then
   (some false)
   else
   (nx41 ())))
 (fun(s41:Unit)=>
  bnd (Hz c.X (-500000) 500000) fun r53=>
  bnd (bif r53 then Hz c.Y (-500000) 500000 else some default) fun r54=>
  bnd (bif (r53&&r54) then Hz c.Z (-500000) 500000 else some default) fun r55=>
  bnd (Hz c.Kilos20 0 500000000) fun r57=>
  bnd (bif r57 then Hz c.Kilos40 0 500000000 else some default) fun r58=>
  bnd (bif (r57&&r58) then Hz c.Lash 0 1000000000000 else some default) fun r59=>
  bnd (Hz c.Bay 0 39) fun r61=>
  bnd (bif r61 then Hz c.Row 0 30 else some default) fun r62=>
  bnd (bif (r61&&r62) then Hz c.Tiers 1 10 else some default) fun r63=>
  bnd (bif ((r61&&r62)&&r63) then Hz c.Height 0 40000 else some default) fun r64=>
  some (((((r61&&r62)&&r63)&&r64)&&((r57&&r58)&&r59))&&((r53&&r54)&&r55))) c.Plugs 0 ()
abbrev Ez (c:G4):List AV:=[G0 c.Tiers,G0 c.Height,G0 c.Kilos20,G0 c.Kilos40,G0 c.Lash,E1 c.Plugs,G0 c.X,G0 c.Y,G0 c.Z]
theorem H49 (c:G4) (r:Bool) (h:Za c=some r):Pure Ej 123 [.agg (G4.cs c)] (·=BL r):=by
 unfold Za at h
 refine Gx [.tmp 2] Tryz.func123 O O (Jr fun hK1=>(JLh (.ptr 1167 0) (Ja (cs:=(G4.cs c)) 1167 O O O O O) O (G57 (BL false) O (G8 (hK1 (Gu [(1,Ed c)] [] 1167 rfl rfl rfl G rfl (by exact⟨.ptr,G⟩) (Js fun hK2=>Jr fun hK3=>(G57 (G0 0) O (G8 (hK3 (Gp ?_)))))))))))
 obtain⟨b41,kx41,hb41,hkx41,h⟩:=Hx h
 refine He (fun i41 (s41:Unit)=>each b41 kx41 (List.drop i41 c.Plugs) i41 s41=some r) (fun i41 s41=>[(1,Ed c),(3,Ei i41)]) (fun i41 s41=>[]) (fun i41=>c.Plugs.length - i41) 0 () h ⟨(.sm O O),G,O⟩ ?_
 clear h
 intro i41 s41 hi41 K41 e41
 refine Js fun hK42=>Jr fun hK43=>(G57 (Ei i41) O (JLh (.dptr [E1 c.Plugs,G0 c.X,G0 c.Y,G0 c.Z]) (Ga R9 O O O) O (JLh (E1 c.Plugs) (Gf Hy O O O) O (JLl Gq O O O fun hm9=>(JLh (BL (decide ((i41:Int) < (c.Plugs.length:Int)))) (J1 O O O) O (G8 (hK43 (Gm O (fun hb=>?_) (fun hb=>?_)))))))))
 ·
  have hk41:=Jc hb
  obtain⟨y41,nx41,hy41,hn41,h⟩:=Hm hi41 hk41
  replace h:=Rn hb41 h
  refine Gn (hK42 (Js fun hK44=>Gp (Js fun hK45=>Js fun hK46=>?_)))
  refine JC_d0 Jg (by kernel_rfl) (Dq (.dptr [E1 c.Plugs,G0 c.X,G0 c.Y,G0 c.Z]) (Ga R9 O O O) O (Dq (E1 c.Plugs) (Gf Hy O O O) O (Dq (Ei i41) (G5 O O) O (Dq (.dptr [G0 y41]) (Gw (f:=G0) (xs:=c.Plugs) (y:=y41) O O O Gq hy41 O) O (Dq (G0 y41) (Gf Gc O O O) O (Dq (BL (decide (y41 < 0))) (J1 O O O) O (Dq (BL (decide (y41 < 0))) (G5 O O) O (Do (.dptr [E1 c.Plugs,G0 c.X,G0 c.Y,G0 c.Z]) [] O .scf G (fun hc=>Ga R9 O O O) O (Do (E1 c.Plugs) [20] O .scf ⟨Ua,G⟩ (fun hc=>Gf Hy O O O) O (Do (Ei i41) [] O .scf G (fun hc=>G5 O O) O (Do (.dptr [G0 y41]) [21,22] O .scf ⟨Ua,Ua,G⟩ (fun hc=>Gw (f:=G0) (xs:=c.Plugs) (y:=y41) O O O Gq hy41 O) O (Do (G0 y41) [23] O .scf ⟨Ua,G⟩ (fun hc=>Gf Gc O O O) O (Do (.dptr (Ez c)) [] O .scf G (fun hc=>Ga Zm O O O) O ?_)))))))))))))
  refine Do (G0 c.Tiers) [25] O .scf ⟨Ua,G⟩ (fun hc=>Gf Gc O O O) O (Do (BL (decide (c.Tiers≤y41))) [24,26] O .scf ⟨Ua,Ua,G⟩ (fun hc=>G31 O O O) O (Dq (BL ((decide (y41 < 0))||(decide (c.Tiers≤y41)))) (Yc O O O O) O (Dnil (hK46 (JCc O h (fun h hb=>?_) (fun h hb=>?_))))))
  ·
   refine Jr fun hK47=>(G57 (BL false) O (G8 (hK47 (Gr (fin1 BL h)))))
  ·
   refine Gn (hK45 (Js fun hK48=>?_))
   obtain⟨v49,hv49,h⟩:=Ge h
   obtain⟨y50,hy50,h⟩:=Ge h
   refine JC_d0 Jg (by kernel_rfl) (Dq (Ei i41) (G5 O O) O (Dq (BL (decide (0 < (i41:Int)))) (G3d O O O) O (Dq (BL (decide (0 < (i41:Int)))) (G5 O O) O (Do (.dptr [E1 c.Plugs,G0 c.X,G0 c.Y,G0 c.Z]) [] O .sct G (fun hc=>Ga R9 O O O) O (Do (E1 c.Plugs) [32] O .sct ⟨Ua,G⟩ (fun hc=>Gf Hy O O O) O (Do (Ei i41) [] O .sct G (fun hc=>G5 O O) O (Do (G0 v49) [34] O .sct ⟨Ua,G⟩ (fun hc=>Gd4 (G25 (Gy hc hv49)) O O O) O (Do (.dptr [G0 y50]) [33,35] O .sct ⟨Ua,Ua,G⟩ (fun hc=>(match Qa (Gy hc hy50) with | ⟨_,hm_,hy_⟩=>Gw (f:=G0) (xs:=c.Plugs) (y:=y50) O O O Gq hy_ hm_)) O (Do (G0 y50) [36] O .sct ⟨Ua,G⟩ (fun hc=>Gf Gc O O O) O (Do (.dptr [E1 c.Plugs,G0 c.X,G0 c.Y,G0 c.Z]) [] O .sct G (fun hc=>Ga R9 O O O) O (Do (E1 c.Plugs) [38] O .sct ⟨Ua,G⟩ (fun hc=>Gf Hy O O O) O (Do (Ei i41) [] O .sct G (fun hc=>G5 O O) O (Do (.dptr [G0 y41]) [39,40] O .sct ⟨Ua,Ua,G⟩ (fun hc=>Gw (f:=G0) (xs:=c.Plugs) (y:=y41) O O O Gq hy41 O) O ?_)))))))))))))
   refine Do (G0 y41) [41] O .sct ⟨Ua,G⟩ (fun hc=>Gf Gc O O O) O (Do (BL (decide (y41≤y50))) [37,42] O .sct ⟨Ua,Ua,G⟩ (fun hc=>G31 O O O) O (Dq (BL ((decide (0 < (i41:Int)))&&(decide (y41≤y50)))) (J5 O O O O) O (Dnil (hK48 (JCc O h (fun h hb=>?_) (fun h hb=>?_))))))
   ·
    refine Jr fun hK51=>(G57 (BL false) O (G8 (hK51 (Gr (fin1 BL h)))))
   ·
    refine Gn (hK44 (G3 (G57 (Ei i41) O (JLh (G0 ((i41+1:Nat):Int)) (Hu (Hc hk41 hm9) O O O) O (G57 (G0 ((i41+1:Nat):Int)) O (G8 (e41 _ _ (i41+1) () (app1 hn41 h) (by omega) ⟨(.sm O O),G,rfl⟩)))))))
 ·
  have h:=app1 hkx41 (Hn hi41 (H6 hb))
  refine Hk (hK2 (Jr fun hK52=>(JLh (.dptr [G0 c.X,G0 c.Y,G0 c.Z]) (Ga Gea O O O) O (JLh (G0 c.X) (Gf Gc O O O) O ?_))))
  obtain⟨r53,hr53,h⟩:=Ge h
  refine JLh (BL r53) (Gk O (J8 c.X (-500000) 500000 r53 hr53) Z7 ⟨O,O,O,O,O,O,G⟩) O (G57 (BL r53) O (JLo (.dptr [G0 c.Y,G0 c.Z]) [] O .sct G (fun hc=>Ga Gc8 O O O) O (JLo (G0 c.Y) [49] O .sct ⟨Ua,G⟩ (fun hc=>Gf Gc O O O) O ?_)))
  obtain⟨r54,hr54,h⟩:=Ge h
  refine JLo (BL r54) [50] O .sct ⟨Ua,G⟩ (fun hc=>Gk (args:=[G0 c.Y,G0 (-500000),G0 500000]) O (J8 c.Y (-500000) 500000 r54 (Gy hc hr54)) Z7 ⟨O,O,O,O,O,O,G⟩) O (JLh (BL (r53&&r54)) (J5 O O O O) O (G57 (BL (r53&&r54)) O (JLo (.dptr [G0 c.Z]) [] O .sct G (fun hc=>Ga Gc7 O O O) O (JLo (G0 c.Z) [54] O .sct ⟨Ua,G⟩ (fun hc=>Gf Gc O O O) O ?_))))
  obtain⟨r55,hr55,h⟩:=Ge h
  refine JLo (BL r55) [55] O .sct ⟨Ua,G⟩ (fun hc=>Gk (args:=[G0 c.Z,G0 (-500000),G0 500000]) O (J8 c.Z (-500000) 500000 r55 (Gy hc hr55)) Z7 ⟨O,O,O,O,O,O,G⟩) O (JLh (BL ((r53&&r54)&&r55)) (J5 O O O O) O (G57 (BL ((r53&&r54)&&r55)) O (G8 (hK52 (Jr fun hK56=>(JLh (.dptr [G0 c.Kilos20,G0 c.Kilos40,G0 c.Lash,E1 c.Plugs,G0 c.X,G0 c.Y,G0 c.Z]) (Ga Ged O O O) O (JLh (G0 c.Kilos20) (Gf Gc O O O) O ?_)))))))
  obtain⟨r57,hr57,h⟩:=Ge h
  refine JLh (BL r57) (Gk O (J8 c.Kilos20 0 500000000 r57 hr57) Z7 ⟨O,O,O,O,O,O,G⟩) O (G57 (BL r57) O (JLo (.dptr [G0 c.Kilos40,G0 c.Lash,E1 c.Plugs,G0 c.X,G0 c.Y,G0 c.Z]) [] O .sct G (fun hc=>Ga Gec O O O) O (JLo (G0 c.Kilos40) [62] O .sct ⟨Ua,G⟩ (fun hc=>Gf Gc O O O) O ?_)))
  obtain⟨r58,hr58,h⟩:=Ge h
  refine JLo (BL r58) [63] O .sct ⟨Ua,G⟩ (fun hc=>Gk (args:=[G0 c.Kilos40,G0 0,G0 500000000]) O (J8 c.Kilos40 0 500000000 r58 (Gy hc hr58)) Z7 ⟨O,O,O,O,O,O,G⟩) O (JLh (BL (r57&&r58)) (J5 O O O O) O (G57 (BL (r57&&r58)) O (JLo (.dptr [G0 c.Lash,E1 c.Plugs,G0 c.X,G0 c.Y,G0 c.Z]) [] O .sct G (fun hc=>Ga Geb O O O) O (JLo (G0 c.Lash) [67] O .sct ⟨Ua,G⟩ (fun hc=>Gf Gc O O O) O ?_))))
  obtain⟨r59,hr59,h⟩:=Ge h
  refine JLo (BL r59) [68] O .sct ⟨Ua,G⟩ (fun hc=>Gk (args:=[G0 c.Lash,G0 0,G0 1000000000000]) O (J8 c.Lash 0 1000000000000 r59 (Gy hc hr59)) Z7 ⟨O,O,O,O,O,O,G⟩) O (JLh (BL ((r57&&r58)&&r59)) (J5 O O O O) O (G57 (BL ((r57&&r58)&&r59)) O (G8 (hK56 (Jr fun hK60=>(JLh (Ed c) (Ga G0f O O O) O (JLh (G0 c.Bay) (Gf Gc O O O) O ?_)))))))
  obtain⟨r61,hr61,h⟩:=Ge h
  refine JLh (BL r61) (Gk O (J8 c.Bay 0 39 r61 hr61) Z7 ⟨O,O,O,O,O,O,G⟩) O (G57 (BL r61) O (JLo (.dptr [G0 c.Row,BL c.Deck,G0 c.Tiers,G0 c.Height,G0 c.Kilos20,G0 c.Kilos40,G0 c.Lash,E1 c.Plugs,G0 c.X,G0 c.Y,G0 c.Z]) [] O .sct G (fun hc=>Ga G0e O O O) O (JLo (G0 c.Row) [75] O .sct ⟨Ua,G⟩ (fun hc=>Gf Gc O O O) O ?_)))
  obtain⟨r62,hr62,h⟩:=Ge h
  refine JLo (BL r62) [76] O .sct ⟨Ua,G⟩ (fun hc=>Gk (args:=[G0 c.Row,G0 0,G0 30]) O (J8 c.Row 0 30 r62 (Gy hc hr62)) Z7 ⟨O,O,O,O,O,O,G⟩) O (JLh (BL (r61&&r62)) (J5 O O O O) O (G57 (BL (r61&&r62)) O (JLo (.dptr (Ez c)) [] O .sct G (fun hc=>Ga Zm O O O) O (JLo (G0 c.Tiers) [80] O .sct ⟨Ua,G⟩ (fun hc=>Gf Gc O O O) O ?_))))
  obtain⟨r63,hr63,h⟩:=Ge h
  refine JLo (BL r63) [81] O .sct ⟨Ua,G⟩ (fun hc=>Gk (args:=[G0 c.Tiers,G0 1,G0 10]) O (J8 c.Tiers 1 10 r63 (Gy hc hr63)) Z7 ⟨O,O,O,O,O,O,G⟩) O (JLh (BL ((r61&&r62)&&r63)) (J5 O O O O) O (G57 (BL ((r61&&r62)&&r63)) O (JLo (.dptr [G0 c.Height,G0 c.Kilos20,G0 c.Kilos40,G0 c.Lash,E1 c.Plugs,G0 c.X,G0 c.Y,G0 c.Z]) [] O .sct G (fun hc=>Ga G2d O O O) O (JLo (G0 c.Height) [85] O .sct ⟨Ua,G⟩ (fun hc=>Gf Gc O O O) O ?_))))
  obtain⟨r64,hr64,h⟩:=Ge h
  refine JLo (BL r64) [86] O .sct ⟨Ua,G⟩ (fun hc=>Gk (args:=[G0 c.Height,G0 0,G0 40000]) O (J8 c.Height 0 40000 r64 (Gy hc hr64)) Z7 ⟨O,O,O,O,O,O,G⟩) O (JLh (BL (((r61&&r62)&&r63)&&r64)) (J5 O O O O) O (G57 (BL (((r61&&r62)&&r63)&&r64)) O (JLo (BL ((r57&&r58)&&r59)) [] O .sct G (fun hc=>G5 O O) O (JLh (BL ((((r61&&r62)&&r63)&&r64)&&((r57&&r58)&&r59))) (J5 O O O O) O (G57 (BL ((((r61&&r62)&&r63)&&r64)&&((r57&&r58)&&r59))) O (JLo (BL ((r53&&r54)&&r55)) [] O .sct G (fun hc=>G5 O O) O (JLh (BL (((((r61&&r62)&&r63)&&r64)&&((r57&&r58)&&r59))&&((r53&&r54)&&r55))) (J5 O O O O) O (G57 (BL (((((r61&&r62)&&r63)&&r64)&&((r57&&r58)&&r59))&&((r53&&r54)&&r55))) O (G8 (hK60 (Gr (fin1 BL h))))))))))))

def Qf (rows:List Int) (row:Int):Option Bool:=
 each (fun y17 i17 (s17:Unit) nx17=>
  bif decide (y17=row) then
  (some true)
  else
  (nx17 ()))
 (fun(s17:Unit)=>
  some false) rows 0 ()
theorem G9e (rows:List Int) (row:Int) (r:Bool) (h:Qf rows row=some r):Pure Ej 124 [E1 rows,G0 row] (·=BL r):=by
 unfold Qf at h
 refine Gx [.tmp 4] Tryz.func124 O O (Jr fun hK1=>(G57 (BL false) O (G8 (hK1 (Js fun hK2=>Jr fun hK3=>(G57 (G0 0) O (G8 (hK3 (Gp ?_)))))))))
 obtain⟨b17,kx17,hb17,hkx17,h⟩:=Hx h
 refine He (fun i17 (s17:Unit)=>each b17 kx17 (List.drop i17 rows) i17 s17=some r) (fun i17 s17=>[(0,E1 rows),(1,G0 row),(5,Ei i17)]) (fun i17 s17=>[]) (fun i17=>rows.length - i17) 0 () h ⟨(.sm O O),G,O⟩ ?_
 clear h
 intro i17 s17 hi17 K17 e17
 refine Js fun hK18=>Jr fun hK19=>(G57 (Ei i17) O (G57 (E1 rows) O (JLl Gq O O O fun hm8=>(JLh (BL (decide ((i17:Int) < (rows.length:Int)))) (J1 O O O) O (G8 (hK19 (Gm O (fun hb=>?_) (fun hb=>?_))))))))
 ·
  have hk17:=Jc hb
  obtain⟨y17,nx17,hy17,hn17,h⟩:=Hm hi17 hk17
  replace h:=Rn hb17 h
  refine Gn (hK18 (Js fun hK20=>Gp (Jr fun hK21=>(G57 (E1 rows) O (G57 (Ei i17) O (JLh (.dptr [G0 y17]) (Gw (f:=G0) (xs:=rows) (y:=y17) O O O Gq hy17 O) O (JLh (G0 y17) (Gf Gc O O O) O (G57 (G0 row) O (JLh (BL (decide (y17=row))) (Jx O O O) O (G8 (hK21 (JCc O h (fun h hb=>?_) (fun h hb=>?_)))))))))))))
  ·
   refine Jr fun hK22=>(G57 (BL true) O (G8 (hK22 (Gr (fin1 BL h)))))
  ·
   refine Gn (hK20 (G3 (G57 (Ei i17) O (JLh (G0 ((i17+1:Nat):Int)) (Hu (Hc hk17 hm8) O O O) O (G57 (G0 ((i17+1:Nat):Int)) O (G8 (e17 _ _ (i17+1) () (app1 hn17 h) (by omega) ⟨(.sm O O),G,rfl⟩)))))))
 ·
  have h:=app1 hkx17 (Hn hi17 (H6 hb))
  refine Hk (hK2 (Jr fun hK23=>(G57 (BL false) O (G8 (hK23 (Gr (fin1 BL h)))))))
end
end Go.Proofs.YthcpolfodgjekaaGreat
