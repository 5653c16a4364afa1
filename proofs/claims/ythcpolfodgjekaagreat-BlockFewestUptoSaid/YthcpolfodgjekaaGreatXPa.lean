/-
 Models of functions of the program,and that they return what the models say.
-/
import Derived.Test.YthcpolfodgjekaaGreatSpecP
set_option maxRecDepth 100000
set_option maxHeartbeats 1000000
set_option linter.unusedVariables false
set_option linter.unusedSimpArgs false
namespace Go.Proofs.YthcpolfodgjekaaGreat
open Go.RowKit
noncomputable section

namespace XPF
open XAF
open XLF
open XCF
open XGF
open XHF
theorem Hb7:Hf Ej 10=true:=by kernel_rfl
theorem R0e:Hf Ej 104=true:=by kernel_rfl
theorem H85:Hf Ej 109=true:=by kernel_rfl
theorem Q1c:Hf Ej 12=true:=by kernel_rfl
theorem Zu:Hf Ej 122=true:=by kernel_rfl
theorem R05:Hf Ej 123=true:=by kernel_rfl
theorem Jbd:Hf Ej 124=true:=by kernel_rfl
theorem H84:Hf Ej 125=true:=by kernel_rfl
theorem Jbc:Hf Ej 126=true:=by kernel_rfl
theorem Jbb:Hf Ej 127=true:=by kernel_rfl
theorem Q1b:Hf Ej 14=true:=by kernel_rfl
theorem Q1a:Hf Ej 17=true:=by kernel_rfl
theorem Q19:Hf Ej 18=true:=by kernel_rfl
theorem Q18:Hf Ej 19=true:=by kernel_rfl
theorem Q17:Hf Ej 20=true:=by kernel_rfl
theorem Q16:Hf Ej 22=true:=by kernel_rfl
theorem R78:Hf Ej 23=true:=by kernel_rfl
theorem H57:Hf Ej 24=true:=by kernel_rfl
theorem Q13:Hf Ej 33=true:=by kernel_rfl
theorem Q12:Hf Ej 34=true:=by kernel_rfl
theorem H04:Hf Ej 35=true:=by kernel_rfl
theorem H55:Hf Ej 36=true:=by kernel_rfl
theorem J49:Hf Ej 37=true:=by kernel_rfl
theorem H03:Hf Ej 41=true:=by kernel_rfl
theorem Q10:Hf Ej 42=true:=by kernel_rfl
theorem Q8c:Hf Ej 5=true:=by kernel_rfl
theorem R6c:Hf Ej 50=true:=by kernel_rfl
theorem H53:Hf Ej 51=true:=by kernel_rfl
theorem J11:Hf Ej 6=true:=by kernel_rfl
theorem Q8b:Hf Ej 7=true:=by kernel_rfl
theorem R65:Hf Ej 70=true:=by kernel_rfl
theorem R64:Hf Ej 71=true:=by kernel_rfl
theorem R63:Hf Ej 73=true:=by kernel_rfl
theorem J46:Hf Ej 74=true:=by kernel_rfl
theorem Q04:Hf Ej 75=true:=by kernel_rfl
theorem Q03:Hf Ej 76=true:=by kernel_rfl
theorem Q02:Hf Ej 77=true:=by kernel_rfl
theorem Q01:Hf Ej 78=true:=by kernel_rfl
theorem R62:Hf Ej 79=true:=by kernel_rfl
theorem Q8a:Hf Ej 8=true:=by kernel_rfl
theorem R5f:Hf Ej 88=true:=by kernel_rfl
theorem R5e:Hf Ej 89=true:=by kernel_rfl
theorem Q89:Hf Ej 9=true:=by kernel_rfl
theorem Jff:Hf Ej 90=true:=by kernel_rfl
theorem Rdb:Zr Ej 4 1 1=true:=by kernel_rfl
theorem Jf9:J79 Ej 5 .u8=true:=by kernel_rfl
theorem Qbe:placesOf Ej 32=some [(0,1),(1,1),(2,4),(6,1),(7,1),(8,1),(9,4)]:=by kernel_rfl
theorem H9e:Zf Ej 3 1=true:=by kernel_rfl
theorem Q85:Zf Ej 4 1=true:=by kernel_rfl
theorem Gab:sliceB Ej 139 4 1=true:=by kernel_rfl
theorem Rd7:(Ej.info? 4).bind (fun i=>i.zero.map Value.cells)=some (List.toArray [.bool false]):=by kernel_rfl
theorem Hde:G05 Ej 32 13=true:=by kernel_rfl
end XPF
open XAF
open XLF
open XCF
open XGF
open XHF
open XPF

def Zy (s:H0) (boxes:List Box) (l:List Stowed):Option Bool:=
 bif ((((decide (12 < (s.Columns.length:Int)))||(decide (12 < (s.Covers.length:Int))))||(decide (30 < (boxes.length:Int))))||(decide (14 < (l.length:Int)))) then
 (some false)
 else
 (each (fun y21 i21 (s21:Unit) nx21=>
   bif ((decide (12 < (y21.Plugs.length:Int)))||(decide (10 < y21.Tiers))) then
   (some false)
   else
   (nx21 ()))
  (fun(s21:Unit)=>
   each (fun y44 i44 (s44:Unit) nx44=>
    bif decide (12 < (y44.Rows.length:Int)) then
    (some false)
    else
    (nx44 ()))
   (fun(s44:Unit)=>
    some true) s.Covers 0 ()) s.Columns 0 ())
abbrev Ew (s:H0):List AV:=[E6 s.Covers,I64 s.Light.Kilos,I64 s.Light.X,I64 s.Light.Y,I64 s.Light.Z,E8 s.Rows,E7 s.Frames,E9 s.Tanks,I64 s.G1.Tolerance,I64 s.G1.Trim,I64 s.G1.List_,I64 s.G1.Stability]
theorem Gf5 (s:H0) (boxes:List Box) (l:List Stowed) (r:Bool) (h:Zy s boxes l=some r):Pure Ej 5 [.agg (H0.cs s),E3 boxes,E2 l] (·=BL r):=by
 unfold Zy at h
 refine Gy [.tmp 6] Tryz.func5 O O (Jr fun hK1=>(JLh (.ptr 1005 0) (J7 (cs:=(H0.cs s)) 1005 O O O O O) O (JLm (BL false) O (G7 (hK1 (Gr [(1,E3 boxes),(2,E2 l),(3,Eb s)] [] 1005 rfl rfl rfl G rfl (by exact⟨.conv (.same rfl),.conv (.same rfl),.ptr,G⟩) (Js fun hK2=>?_)))))))
 refine Jr fun hK3=>(JLh (Eb s) (Ga Hh O O O) O (JLh (E5 s.Columns) (Ge Ho O O O) O (JLl H6 O O O fun hm13=>(JLh (BL (decide (12 < (s.Columns.length:Int)))) (G41 O O O) O (JLm (BL (decide (12 < (s.Columns.length:Int)))) O (JLo (.dptr (Ew s)) [] O .scf G (fun hc=>Ga Jg O O O) O (JLo (E6 s.Covers) [16] O .scf ⟨Ua,G⟩ (fun hc=>Ge Jv O O O) O (JLo (Ei s.Covers.length) [17] O .scf ⟨Ua,G⟩ (fun hc=>Qs (f:=G8.av) (xs:=s.Covers) Hq O O) O (JLo (BL (decide (12 < (s.Covers.length:Int)))) [18] O .scf ⟨Ua,G⟩ (fun hc=>G41 O O O) O (JLh (BL ((decide (12 < (s.Columns.length:Int)))||(decide (12 < (s.Covers.length:Int))))) (Rs O O O O) O (JLm (BL ((decide (12 < (s.Columns.length:Int)))||(decide (12 < (s.Covers.length:Int))))) O (JLo (E3 boxes) [] O .scf G (fun hc=>G4 O O) O (JLo (Ei boxes.length) [22] O .scf ⟨Ua,G⟩ (fun hc=>Qs (f:=Box.av) (xs:=boxes) Q1 O O) O ?_)))))))))))))
 refine JLo (BL (decide (30 < (boxes.length:Int)))) [23] O .scf ⟨Ua,G⟩ (fun hc=>G41 O O O) O (JLh (BL (((decide (12 < (s.Columns.length:Int)))||(decide (12 < (s.Covers.length:Int))))||(decide (30 < (boxes.length:Int))))) (Rs O O O O) O (JLm (BL (((decide (12 < (s.Columns.length:Int)))||(decide (12 < (s.Covers.length:Int))))||(decide (30 < (boxes.length:Int))))) O (JLo (E2 l) [] O .scf G (fun hc=>G4 O O) O (JLo (Ei l.length) [27] O .scf ⟨Ua,G⟩ (fun hc=>Qs (f:=Stowed.av) (xs:=l) Gx O O) O (JLo (BL (decide (14 < (l.length:Int)))) [28] O .scf ⟨Ua,G⟩ (fun hc=>G41 O O O) O (JLh (BL ((((decide (12 < (s.Columns.length:Int)))||(decide (12 < (s.Covers.length:Int))))||(decide (30 < (boxes.length:Int))))||(decide (14 < (l.length:Int))))) (Rs O O O O) O (G7 (hK3 ?_))))))))
 refine JCc O h ?_ ?_<;>intro h hb
 ·
  refine Jr fun hK4=>(JLm (BL false) O (G7 (hK4 (Gq (fin1 BL h)))))
 ·
  refine Gm (hK2 (Js fun hK5=>Jr fun hK6=>(JLh (Eb s) (Ga Hh O O O) O (JLh (E5 s.Columns) (Ge Ho O O O) O (JLl H6 O O O fun hm33=>(JLm (I64 0) O (G7 (hK6 (Gp ?_)))))))))
  obtain⟨b21,kx21,hb21,hkx21,h⟩:=Hv h
  refine Hc (fun i21 (s21:Unit)=>each b21 kx21 (List.drop i21 s.Columns) i21 s21=some r) (fun i21 s21=>[(3,Eb s),(32,E5 s.Columns),(33,Ei s.Columns.length),(34,Ei i21)]) (fun i21 s21=>[]) (fun i21=>s.Columns.length - i21) 0 () h ⟨(.sm O O),G,rfl⟩ ?_
  clear h
  intro i21 s21 hi21 K21 e21
  refine Jr fun hK22=>(JLh (BL (decide ((i21:Int) < (s.Columns.length:Int)))) (Hy O O O) O (G7 (hK22 (Js fun hK23=>Gj O (fun hb=>?_) (fun hb=>?_)))))
  ·
   have hk21:=J8 hb
   obtain⟨y21,nx21,hy21,hn21,h⟩:=Hj hi21 hk21
   replace h:=R8 hb21 h
   refine Gm (hK23 (Js fun hK24=>Gp (Jr fun hK25=>(JLh (Ed y21) (Gv (f:=G3.av) (xs:=s.Columns) (y:=y21) O O O H6 hy21 O) O (JLh (.agg (G3.cs y21)) (Gg Y6 O O O) O (JLh (.ptr 1006 0) (Jn 1006 12 G76 O O) O (Je (u:=.junk) (J5 (u:=.agg (G3.cs y21)) (ds:=(G3.cs y21)) Gd3 O O O O O O O O) (G7 (hK25 ?_)))))))))
   refine Gr [(3,Eb s),(8,Ed y21),(32,E5 s.Columns),(33,Ei s.Columns.length),(34,Ei i21)] [] 1006 rfl rfl rfl G rfl (by repeat' (first | exact .ptr | constructor)) ?_
   refine Jr fun hK26=>(JLh (.dptr ((G3.cs y21).drop 8)) (Ga Rn O O O) O (JLh (E1 y21.Plugs) (Ge J1 O O O) O (JLl Gn O O O fun hm40=>(JLh (BL (decide (12 < (y21.Plugs.length:Int)))) (G41 O O O) O (JLm (BL (decide (12 < (y21.Plugs.length:Int)))) O (JLo (.dptr ((G3.cs y21).drop 3)) [] O .scf G (fun hc=>Ga Zn O O O) O (JLo (I64 y21.Tiers) [43] O .scf ⟨Ua,G⟩ (fun hc=>Ge Gb O O O) O (JLo (BL (decide (10 < y21.Tiers))) [44] O .scf ⟨Ua,G⟩ (fun hc=>G41 O O O) O (JLh (BL ((decide (12 < (y21.Plugs.length:Int)))||(decide (10 < y21.Tiers)))) (Rs O O O O) O (G7 (hK26 (JCc O h (fun h hb=>?_) (fun h hb=>?_)))))))))))))
   ·
    refine Jr fun hK27=>(JLm (BL false) O (G7 (hK27 (Gq (fin1 BL h)))))
   ·
    refine Gm (hK24 (G2 (JLh (I64 ((i21+1:Nat):Int)) (Ht (Hb hk21 hm33) O O O) O (JLm (I64 ((i21+1:Nat):Int)) O (G7 (e21 _ _ (i21+1) () (app1 hn21 h) (by omega) ⟨(.sm O O),G,rfl⟩))))))
  ·
   have h:=app1 hkx21 (Hk hi21 (H3 hb))
   refine Hi (hK5 (Js fun hK28=>Jr fun hK29=>(JLh (.dptr (Ew s)) (Ga Jg O O O) O (JLh (E6 s.Covers) (Ge Jv O O O) O (JLl Hq O O O fun hm50=>(JLm (I64 0) O (G7 (hK29 (Gp ?_)))))))))
   obtain⟨b44,kx44,hb44,hkx44,h⟩:=Hv h
   refine Hc (fun i44 (s44:Unit)=>each b44 kx44 (List.drop i44 s.Covers) i44 s44=some r) (fun i44 s44=>[(49,E6 s.Covers),(50,Ei s.Covers.length),(51,Ei i44)]) (fun i44 s44=>[]) (fun i44=>s.Covers.length - i44) 0 () h ⟨(.sm O O),G,O⟩ ?_
   clear h
   intro i44 s44 hi44 K44 e44
   refine Jr fun hK45=>(JLh (BL (decide ((i44:Int) < (s.Covers.length:Int)))) (Hy O O O) O (G7 (hK45 (Js fun hK46=>Gj O (fun hb=>?_) (fun hb=>?_)))))
   ·
    have hk44:=J8 hb
    obtain⟨y44,nx44,hy44,hn44,h⟩:=Hj hi44 hk44
    replace h:=R8 hb44 h
    refine Gm (hK46 (Js fun hK47=>Gp (Jr fun hK48=>(JLh (.dptr [I64 y44.Bay,E1 y44.Rows]) (Gv (f:=G8.av) (xs:=s.Covers) (y:=y44) O O O Hq hy44 O) O (JLh (.agg [I64 y44.Bay,E1 y44.Rows]) (Gg Z0 O O O) O (JLh (.ptr 1007 0) (Jn 1007 2 G75 O O) O (Je (u:=.junk) (J5 (u:=.agg [I64 y44.Bay,E1 y44.Rows]) (ds:=[I64 y44.Bay,E1 y44.Rows]) Gd2 O O O O O O O O) (G7 (hK48 (Gr [(10,.dptr [I64 y44.Bay,E1 y44.Rows]),(49,E6 s.Covers),(50,Ei s.Covers.length),(51,Ei i44)] [] 1007 rfl rfl rfl G rfl (by repeat' (first | exact .ptr | constructor)) ?_))))))))))
    refine Jr fun hK49=>(JLh (.dptr [E1 y44.Rows]) (Ga Qf O O O) O (JLh (E1 y44.Rows) (Ge J1 O O O) O (JLl Gn O O O fun hm57=>(JLh (BL (decide (12 < (y44.Rows.length:Int)))) (G41 O O O) O (G7 (hK49 (JCc O h (fun h hb=>?_) (fun h hb=>?_))))))))
    ·
     refine Jr fun hK50=>(JLm (BL false) O (G7 (hK50 (Gq (fin1 BL h)))))
    ·
     refine Gm (hK47 (G2 (JLh (I64 ((i44+1:Nat):Int)) (Ht (Hb hk44 hm50) O O O) O (JLm (I64 ((i44+1:Nat):Int)) O (G7 (e44 _ _ (i44+1) () (app1 hn44 h) (by omega) ⟨(.sm O O),G,rfl⟩))))))
   ·
    have h:=app1 hkx44 (Hk hi44 (H3 hb))
    refine Hi (hK28 (Jr fun hK51=>(JLm (BL true) O (G7 (hK51 (Gq (fin1 BL h)))))))

def G6a :Option H0:=
 some (H0.mk ([(G3.mk 0 0 false 2 0 0 0 0 [] 0 0 0),(G3.mk 0 1 false 2 0 0 0 0 [] 0 0 0),(G3.mk 0 0 true 3 0 0 0 0 [] 0 0 0),(G3.mk 0 1 true 3 0 0 0 0 [] 0 0 0),(G3.mk 1 1 true 4 0 0 0 0 [] 0 0 0)]) ([(G8.mk 0 [0,1])]) (Light.mk 0 0 0 0) [] [] [] (G1.mk 0 0 0 0))
abbrev Ex:List AV:=[E5 ([]:List G3),E6 ([]:List G8),I64 0,I64 0,I64 0,I64 0,E8 ([]:List Row),E7 ([]:List Frame),E9 ([]:List Gf),I64 0,I64 0,I64 0,I64 0]
theorem H6c  (r:H0) (h:G6a =some r):Pure Ej 23 [] (·=.agg (H0.cs r)):=by
 unfold G6a at h
 refine Gy [.cell 0 32] Tryz.func23 O O (Jr fun hK1=>(JLh (.ptr 1044 0) (G34 1044 Ex [.slice none 0 0,.slice none 0 0,E0,E0,E0,E0,.slice none 0 0,.slice none 0 0,.slice none 0 0,E0,E0,E0,E0] J39 ⟨.inr ⟨_,O,O⟩,.inr ⟨_,O,O⟩,.inl O,.inl O,.inl O,.inl O,.inr ⟨_,O,O⟩,.inr ⟨_,O,O⟩,.inr ⟨_,O,O⟩,.inl O,.inl O,.inl O,.inl O,G⟩ O O) O (G7 (hK1 ?_))))
 refine Jr fun hK2=>(JLh (.agg [I64 0,I64 0,BL false,I64 2,I64 0,I64 0,I64 0,I64 0,E1 ([]:List Int),I64 0,I64 0,I64 0]) (Jk (cs:=[I64 0,I64 0,BL false,I64 2,I64 0,I64 0,I64 0,I64 0,E1 ([]:List Int),I64 0,I64 0,I64 0]) [(0,1),(1,1),(2,1),(3,1),(4,1),(5,1),(6,1),(7,1),(8,1),(9,1),(10,1),(11,1)] [I64 0,I64 0,BL false,I64 0,I64 0,I64 0,I64 0,I64 0,E1 ([]:List Int),I64 0,I64 0,I64 0] [E0,E0,.bool false,E0,E0,E0,E0,E0,.slice none 0 0,E0,E0,E0] Gac G94 ⟨.inl O,.inl O,.inl O,.inl O,.inl O,.inl O,.inl O,.inl O,.inr ⟨_,O,O⟩,.inl O,.inl O,.inl O,G⟩ O O) O (JLh (.agg [I64 0,I64 1,BL false,I64 2,I64 0,I64 0,I64 0,I64 0,E1 ([]:List Int),I64 0,I64 0,I64 0]) (Jk (cs:=[I64 0,I64 1,BL false,I64 2,I64 0,I64 0,I64 0,I64 0,E1 ([]:List Int),I64 0,I64 0,I64 0]) [(0,1),(1,1),(2,1),(3,1),(4,1),(5,1),(6,1),(7,1),(8,1),(9,1),(10,1),(11,1)] [I64 0,I64 0,BL false,I64 0,I64 0,I64 0,I64 0,I64 0,E1 ([]:List Int),I64 0,I64 0,I64 0] [E0,E0,.bool false,E0,E0,E0,E0,E0,.slice none 0 0,E0,E0,E0] Gac G94 ⟨.inl O,.inl O,.inl O,.inl O,.inl O,.inl O,.inl O,.inl O,.inr ⟨_,O,O⟩,.inl O,.inl O,.inl O,G⟩ O O) O (JLh (.agg [I64 0,I64 0,BL true,I64 3,I64 0,I64 0,I64 0,I64 0,E1 ([]:List Int),I64 0,I64 0,I64 0]) (Jk (cs:=[I64 0,I64 0,BL true,I64 3,I64 0,I64 0,I64 0,I64 0,E1 ([]:List Int),I64 0,I64 0,I64 0]) [(0,1),(1,1),(2,1),(3,1),(4,1),(5,1),(6,1),(7,1),(8,1),(9,1),(10,1),(11,1)] [I64 0,I64 0,BL false,I64 0,I64 0,I64 0,I64 0,I64 0,E1 ([]:List Int),I64 0,I64 0,I64 0] [E0,E0,.bool false,E0,E0,E0,E0,E0,.slice none 0 0,E0,E0,E0] Gac G94 ⟨.inl O,.inl O,.inl O,.inl O,.inl O,.inl O,.inl O,.inl O,.inr ⟨_,O,O⟩,.inl O,.inl O,.inl O,G⟩ O O) O (JLh (.agg [I64 0,I64 1,BL true,I64 3,I64 0,I64 0,I64 0,I64 0,E1 ([]:List Int),I64 0,I64 0,I64 0]) (Jk (cs:=[I64 0,I64 1,BL true,I64 3,I64 0,I64 0,I64 0,I64 0,E1 ([]:List Int),I64 0,I64 0,I64 0]) [(0,1),(1,1),(2,1),(3,1),(4,1),(5,1),(6,1),(7,1),(8,1),(9,1),(10,1),(11,1)] [I64 0,I64 0,BL false,I64 0,I64 0,I64 0,I64 0,I64 0,E1 ([]:List Int),I64 0,I64 0,I64 0] [E0,E0,.bool false,E0,E0,E0,E0,E0,.slice none 0 0,E0,E0,E0] Gac G94 ⟨.inl O,.inl O,.inl O,.inl O,.inl O,.inl O,.inl O,.inl O,.inr ⟨_,O,O⟩,.inl O,.inl O,.inl O,G⟩ O O) O (JLh (.agg [I64 1,I64 1,BL true,I64 4,I64 0,I64 0,I64 0,I64 0,E1 ([]:List Int),I64 0,I64 0,I64 0]) (Jk (cs:=[I64 1,I64 1,BL true,I64 4,I64 0,I64 0,I64 0,I64 0,E1 ([]:List Int),I64 0,I64 0,I64 0]) [(0,1),(1,1),(2,1),(3,1),(4,1),(5,1),(6,1),(7,1),(8,1),(9,1),(10,1),(11,1)] [I64 0,I64 0,BL false,I64 0,I64 0,I64 0,I64 0,I64 0,E1 ([]:List Int),I64 0,I64 0,I64 0] [E0,E0,.bool false,E0,E0,E0,E0,E0,.slice none 0 0,E0,E0,E0] Gac G94 ⟨.inl O,.inl O,.inl O,.inl O,.inl O,.inl O,.inl O,.inl O,.inr ⟨_,O,O⟩,.inl O,.inl O,.inl O,G⟩ O O) O (JLh (E5 ([(G3.mk 0 0 false 2 0 0 0 0 [] 0 0 0),(G3.mk 0 1 false 2 0 0 0 0 [] 0 0 0),(G3.mk 0 0 true 3 0 0 0 0 [] 0 0 0),(G3.mk 0 1 true 3 0 0 0 0 [] 0 0 0),(G3.mk 1 1 true 4 0 0 0 0 [] 0 0 0)])) (Ha (xs:=[.agg [I64 0,I64 0,BL false,I64 2,I64 0,I64 0,I64 0,I64 0,E1 ([]:List Int),I64 0,I64 0,I64 0],.agg [I64 0,I64 1,BL false,I64 2,I64 0,I64 0,I64 0,I64 0,E1 ([]:List Int),I64 0,I64 0,I64 0],.agg [I64 0,I64 0,BL true,I64 3,I64 0,I64 0,I64 0,I64 0,E1 ([]:List Int),I64 0,I64 0,I64 0],.agg [I64 0,I64 1,BL true,I64 3,I64 0,I64 0,I64 0,I64 0,E1 ([]:List Int),I64 0,I64 0,I64 0],.agg [I64 1,I64 1,BL true,I64 4,I64 0,I64 0,I64 0,I64 0,E1 ([]:List Int),I64 0,I64 0,I64 0]]) O ⟨O,O,O,O,O,O,O,O,O,O,G⟩ H6 G76 O O O O) O (JLh (E1 [0,1]) (Ha (xs:=[I64 0,I64 1]) O ⟨O,O,O,O,G⟩ Gn Jz O O O O) O (JLh (.agg [I64 0,E1 [0,1]]) (Jk (cs:=[I64 0,E1 [0,1]]) [(0,1),(1,1)] [I64 0,E1 ([]:List Int)] [E0,.slice none 0 0] J64 Hb4 ⟨.inl O,.inr ⟨_,O,O⟩,G⟩ O O) O (JLh (E6 ([(G8.mk 0 [0,1])])) (Ha (xs:=[.agg [I64 0,E1 [0,1]]]) O ⟨O,O,G⟩ Hq G75 O O O O) O (JLh (.agg [E5 ([(G3.mk 0 0 false 2 0 0 0 0 [] 0 0 0),(G3.mk 0 1 false 2 0 0 0 0 [] 0 0 0),(G3.mk 0 0 true 3 0 0 0 0 [] 0 0 0),(G3.mk 0 1 true 3 0 0 0 0 [] 0 0 0),(G3.mk 1 1 true 4 0 0 0 0 [] 0 0 0)]),E6 ([(G8.mk 0 [0,1])]),I64 0,I64 0,I64 0,I64 0,E8 ([]:List Row),E7 ([]:List Frame),E9 ([]:List Gf),I64 0,I64 0,I64 0,I64 0]) (Jk (cs:=[E5 ([(G3.mk 0 0 false 2 0 0 0 0 [] 0 0 0),(G3.mk 0 1 false 2 0 0 0 0 [] 0 0 0),(G3.mk 0 0 true 3 0 0 0 0 [] 0 0 0),(G3.mk 0 1 true 3 0 0 0 0 [] 0 0 0),(G3.mk 1 1 true 4 0 0 0 0 [] 0 0 0)]),E6 ([(G8.mk 0 [0,1])]),I64 0,I64 0,I64 0,I64 0,E8 ([]:List Row),E7 ([]:List Frame),E9 ([]:List Gf),I64 0,I64 0,I64 0,I64 0]) [(0,1),(1,1),(2,4),(6,1),(7,1),(8,1),(9,4)] Ex [.slice none 0 0,.slice none 0 0,E0,E0,E0,E0,.slice none 0 0,.slice none 0 0,.slice none 0 0,E0,E0,E0,E0] Qbe J39 ⟨.inr ⟨_,O,O⟩,.inr ⟨_,O,O⟩,.inl O,.inl O,.inl O,.inl O,.inr ⟨_,O,O⟩,.inr ⟨_,O,O⟩,.inr ⟨_,O,O⟩,.inl O,.inl O,.inl O,.inl O,G⟩ O O) O (Je (u:=.junk) (J5 (u:=.agg [E5 ([(G3.mk 0 0 false 2 0 0 0 0 [] 0 0 0),(G3.mk 0 1 false 2 0 0 0 0 [] 0 0 0),(G3.mk 0 0 true 3 0 0 0 0 [] 0 0 0),(G3.mk 0 1 true 3 0 0 0 0 [] 0 0 0),(G3.mk 1 1 true 4 0 0 0 0 [] 0 0 0)]),E6 ([(G8.mk 0 [0,1])]),I64 0,I64 0,I64 0,I64 0,E8 ([]:List Row),E7 ([]:List Frame),E9 ([]:List Gf),I64 0,I64 0,I64 0,I64 0]) (ds:=[E5 ([(G3.mk 0 0 false 2 0 0 0 0 [] 0 0 0),(G3.mk 0 1 false 2 0 0 0 0 [] 0 0 0),(G3.mk 0 0 true 3 0 0 0 0 [] 0 0 0),(G3.mk 0 1 true 3 0 0 0 0 [] 0 0 0),(G3.mk 1 1 true 4 0 0 0 0 [] 0 0 0)]),E6 ([(G8.mk 0 [0,1])]),I64 0,I64 0,I64 0,I64 0,E8 ([]:List Row),E7 ([]:List Frame),E9 ([]:List Gf),I64 0,I64 0,I64 0,I64 0]) H51 O O O O O O O O) (G7 (hK2 ?_)))))))))))))
 refine Gq (⟨[.agg [E5 ([(G3.mk 0 0 false 2 0 0 0 0 [] 0 0 0),(G3.mk 0 1 false 2 0 0 0 0 [] 0 0 0),(G3.mk 0 0 true 3 0 0 0 0 [] 0 0 0),(G3.mk 0 1 true 3 0 0 0 0 [] 0 0 0),(G3.mk 1 1 true 4 0 0 0 0 [] 0 0 0)]),E6 ([(G8.mk 0 [0,1])]),I64 0,I64 0,I64 0,I64 0,E8 ([]:List Row),E7 ([]:List Frame),E9 ([]:List Gf),I64 0,I64 0,I64 0,I64 0]],[],G,O,⟨⟨_,⟨_,_,_,_,O,O,O,.inl ⟨H7,O⟩⟩,.conv (.same O)⟩,G⟩,O,congrArg (fun r:H0=>(.agg (H0.cs r):AV)) (Kj h)⟩)

def Zc (box:Int) (column:Int) (tier:Int) (half:Int):Option Stowed:=
 some (Stowed.mk box (Slot.mk column tier half))
theorem G1c (box:Int) (column:Int) (tier:Int) (half:Int) (r:Stowed) (h:Zc box column tier half=some r):Pure Ej 24 [I64 box,I64 column,I64 tier,U8 half] (·=.agg (Stowed.cs r)):=by
 unfold Zc at h
 refine Gy [.cell 8 73] Tryz.func24 O O (Jr fun hK1=>(JLh (.ptr 1045 0) (G34 1045 [I64 0,I64 0,I64 0,U8 0] [E0,E0,E0,.int .u8 0] H01 ⟨.inl O,.inl O,.inl O,.inl O,G⟩ O O) O (G7 (hK1 ?_))))
 refine Jr fun hK2=>(JLm (I64 box) O (JLm (I64 column) O (JLm (I64 tier) O (JLm (U8 half) O (JLh (.agg [I64 column,I64 tier,U8 half]) (Jk (cs:=[I64 column,I64 tier,U8 half]) [(0,1),(1,1),(2,1)] [I64 0,I64 0,U8 0] [E0,E0,.int .u8 0] G79 Gd1 ⟨.inl O,.inl O,.inl O,G⟩ O O) O (JLh (.agg [I64 box,I64 column,I64 tier,U8 half]) (Jk (cs:=[I64 box,I64 column,I64 tier,U8 half]) [(0,1),(1,3)] [I64 0,I64 0,I64 0,U8 0] [E0,E0,E0,.int .u8 0] H39 H01 ⟨.inl O,.inl O,.inl O,.inl O,G⟩ O O) O (Je (u:=.junk) (J5 (u:=.agg [I64 box,I64 column,I64 tier,U8 half]) (ds:=[I64 box,I64 column,I64 tier,U8 half]) G4a O O O O O O O O) (G7 (hK2 (Gq ?_))))))))))
 exact⟨[.agg [I64 box,I64 column,I64 tier,U8 half]],[],G,O,⟨⟨_,⟨_,_,_,_,O,O,O,.inl ⟨Ru,O⟩⟩,.conv (.same O)⟩,G⟩,O,congrArg (fun r:Stowed=>(.agg (Stowed.cs r):AV)) (Kj h)⟩

def Gb4 (x:Stowed) (p1:Int):Option Bool:=
 some (decide (x.Box=p1))
theorem Q5d (x:Stowed) (p1:Int) (r:Bool) (h:Gb4 x p1=some r):Pure Ej 70 [.agg (Stowed.cs x),.dptr [I64 p1]] (·=BL r):=by
 unfold Gb4 at h
 refine Gy [.tmp 3] Tryz.func70 O O (Jr fun hK1=>(JLh (.ptr 1123 0) (J7 (cs:=[I64 x.Box,I64 x.Slot.G3,I64 x.Slot.Tier,U8 x.Slot.Half]) 1123 O O O O O) O (JLm (BL false) O (G7 (hK1 (Gr [(1,.dptr [I64 p1]),(2,Ec x)] [] 1123 rfl rfl rfl G rfl (by exact⟨.conv (.same rfl),.ptr,G⟩) (Jr fun hK2=>(JLh (Ec x) (Ga Hu O O O) O (JLh (I64 x.Box) (Ge Gb O O O) O (JLh (I64 p1) (Ge Gb O O O) O (JLh (BL (decide (x.Box=p1))) (Ju O O O) O (JLm (BL (decide (x.Box=p1))) O (G7 (hK2 (Gq (fin1 BL h))))))))))))))))

def H0f (l:List Stowed) (id_:Int):Option Bool:=
 bnd (Qp l (fun z0=>Gb4 z0 id_)) fun r3=>
 some r3
theorem J87 (l:List Stowed) (id_:Int) (r:Bool) (h:H0f l id_=some r):Pure Ej 33 [E2 l,I64 id_] (·=BL r):=by
 unfold H0f at h
 refine Gy [.tmp 4] Tryz.func33 O O (Jr fun hK1=>(JLh (.ptr 1060 0) (J7 (cs:=[I64 id_]) 1060 O O O O O) O (JLm (BL false) O (G7 (hK1 (Gr [(0,E2 l),(3,.dptr [I64 id_])] [] 1060 rfl rfl rfl G rfl (by exact⟨.conv (.same rfl),.ptr,G⟩) (Jr fun hK2=>(JLm (E2 l) O (JLh (.fn 70 [.dptr [I64 id_]]) (G3d (cs:=[.dptr [I64 id_]]) O O) O ?_)))))))))
 obtain⟨r3,hr3,h⟩:=Gd h
 refine JLh (BL r3) (Gi O (G50 l (fun z0=>Gb4 z0 id_) 70 [.dptr [I64 id_]] R65 O (fun z0 q hq=>Q5d z0 id_ q hq) r3 hr3) Q05 ⟨O,O,O,O,G⟩) O (JLm (BL r3) O (G7 (hK2 (Gq (fin1 BL h)))))

def G3a (F:Nat) (other:Int) (p1:H0) (p2:List Box) (p3:List Stowed) (p4:Int) (p5:Int):Option Bool:=
 bnd (G0a F p1 p2 p3 [other]) fun r3=>
 bnd (Jx p2 other) fun r5=>
 bnd (bif decide (r5 < p4) then Yg r3.1 p5 else some default) fun r6=>
 some ((decide (r5 < p4))&&r6)
theorem J2b (F:Nat) (other:Int) (p1:H0) (p2:List Box) (p3:List Stowed) (p4:Int) (p5:Int) (r:Bool) (h:G3a F other p1 p2 p3 p4 p5=some r):Pure Ej 71 [I64 other,Eb p1,.dptr [E3 p2],.dptr [E2 p3],.dptr [I64 p4],.dptr [I64 p5]] (·=BL r):=by
 unfold G3a at h
 refine Gy [.tmp 7] Tryz.func71 O O (Jr fun hK1=>(JLm (BL false) O (G7 (hK1 (Jr fun hK2=>(JLh (.agg (H0.cs p1)) (Gg H7 O O O) O (JLh (E3 p2) (Ge G23 O O O) O (JLh (E2 p3) (Ge Ry O O O) O (JLm (I64 other) O (JLh (E1 [other]) (Ha (xs:=[I64 other]) O ⟨O,O,G⟩ Gn Jz O O O O) O ?_))))))))))
 obtain⟨r3,hr3,h⟩:=Gd h
 refine JLh (.tup [E1 r3.1,I64 r3.2]) (Gi O (H68.down F p1 p2 p3 [other] r3 hr3) J48 ⟨O,O,O,O,O,O,O,O,G⟩) O (JLm (.tup [E1 r3.1,I64 r3.2]) O (JLh (E1 r3.1) (H4 O O O) O (JLh (I64 r3.2) (H4 O O O) O (JLm (E1 r3.1) O (JLm (I64 r3.2) O (G7 (hK2 (Js fun hK4=>?_))))))))
 obtain⟨r5,hr5,h⟩:=Gd h
 obtain⟨r6,hr6,h⟩:=Gd h
 refine JC_d0 Jb (by kernel_rfl) (Dq (E3 p2) (Ge G23 O O O) O (Dq (I64 other) (G4 O O) O (Dq (I64 r5) (Gi (args:=[E3 p2,I64 other]) O (Ye p2 other r5 hr5) G97 ⟨O,O,O,O,G⟩) O (Dq (I64 p4) (Ge Gb O O O) O (Dq (BL (decide (r5 < p4))) (Hy O O O) O (Dq (BL (decide (r5 < p4))) (G4 O O) O (Do (E1 r3.1) [] O .sct G (fun hc=>G4 O O) O (Do (I64 p5) [] O .sct G (fun hc=>Ge Gb O O O) O (Do (BL r6) [25,26] O .sct ⟨Ua,Ua,G⟩ (fun hc=>Gi (args:=[E1 r3.1,I64 p5]) O (G72 r3.1 p5 r6 (Gw hc hr6)) J47 ⟨O,O,O,O,G⟩) O (Dq (BL ((decide (r5 < p4))&&r6)) (J4 O O O O) O (Dq (BL ((decide (r5 < p4))&&r6)) (G6 O O) O (Dnil (hK4 (Gq (fin1 BL h)))))))))))))))

def G57 (F:Nat) (s:H0) (boxes:List Box) (l:List Stowed) (id_:Int):Option (List Int):=
 bnd (Jx boxes id_) fun r3=>
 each (fun y24 i24 (s24:(List Int)) nx24=>
  jp (fun kj27=>
   bnd (bif decide (y24.Box≠id_) then G3a F y24.Box s boxes l r3 id_ else some default) fun r30=>
   bif ((decide (y24.Box≠id_))&&r30) then
   (need (decide ((s24.length+[y24.Box].length)*8≤140737488355328∧s24.length+[y24.Box].length≤maxLen)) <|
    kj27 (s24++[y24.Box]))
   else
   (kj27 s24)) fun(j27:(List Int))=>
  nx24 j27)
 (fun(s24:(List Int))=>
  some s24) l 0 []
theorem H8d (F:Nat) (s:H0) (boxes:List Box) (l:List Stowed) (id_:Int) (r:(List Int)) (h:G57 F s boxes l id_=some r):Pure Ej 34 [.agg (H0.cs s),E3 boxes,E2 l,I64 id_] (·=E1 r):=by
 unfold G57 at h
 refine Gy [.tmp 8] Tryz.func34 O O (Jr fun hK1=>(JLh (.ptr 1061 0) (J7 (cs:=(H0.cs s)) 1061 O O O O O) O (JLh (.ptr 1062 0) (J7 (cs:=[E3 boxes]) 1062 O O O O O) O (JLh (.ptr 1063 0) (J7 (cs:=[E2 l]) 1063 O O O O O) O (JLh (.ptr 1064 0) (J7 (cs:=[I64 id_]) 1064 O O O O O) O (JLh (E1 ([]:List Int)) (H2 1 O O) O (G7 (hK1 ?_))))))))
 refine Gr [(4,Eb s),(5,.ptr 1062 0),(6,.ptr 1063 0),(7,.ptr 1064 0)] [(1062,.box 33 [E3 boxes]),(1063,.box 34 [E2 l]),(1064,.box 3 [I64 id_])] 1061 rfl rfl rfl ⟨⟨_,rfl,.boxEq rfl rfl⟩,⟨_,rfl,.boxEq rfl rfl⟩,⟨_,rfl,.boxEq rfl rfl⟩,G⟩ rfl (by repeat' (first | exact .ptr | constructor)) ?_
 refine Gr [(4,Eb s),(5,.dptr [E3 boxes]),(6,.ptr 1063 0),(7,.ptr 1064 0)] [(1063,.box 34 [E2 l]),(1064,.box 3 [I64 id_])] 1062 rfl rfl rfl ⟨⟨_,rfl,.boxEq rfl rfl⟩,⟨_,rfl,.boxEq rfl rfl⟩,G⟩ rfl (by repeat' (first | exact .ptr | constructor)) ?_
 refine Gr [(4,Eb s),(5,.dptr [E3 boxes]),(6,.dptr [E2 l]),(7,.ptr 1064 0)] [(1064,.box 3 [I64 id_])] 1063 rfl rfl rfl ⟨⟨_,rfl,.boxEq rfl rfl⟩,G⟩ rfl (by repeat' (first | exact .ptr | constructor)) ?_
 refine Gr [(4,Eb s),(5,.dptr [E3 boxes]),(6,.dptr [E2 l]),(7,.dptr [I64 id_])] [] 1064 rfl rfl rfl G rfl (by repeat' (first | exact .ptr | constructor)) (Jr fun hK2=>(JLh (E3 boxes) (Ge G23 O O O) O (JLh (I64 id_) (Ge Gb O O O) O ?_)))
 obtain⟨r3,hr3,h⟩:=Gd h
 refine JLh (I64 r3) (Gi O (Ye boxes id_ r3 hr3) G97 ⟨O,O,O,O,G⟩) O (JLh (.ptr 1065 0) (Jn 1065 1 Jz O O) O (Je (u:=.junk) (J5 (u:=I64 r3) (ds:=[I64 r3]) H9e O O O O O O O O) (G7 (hK2 (Gr [(4,Eb s),(5,.dptr [E3 boxes]),(6,.dptr [E2 l]),(7,.dptr [I64 id_]),(9,.dptr [I64 r3])] [] 1065 rfl rfl rfl G rfl (by repeat' (first | exact .ptr | constructor)) ?_)))))
 refine Jr fun hK4=>(JLh (.fn 71 [.dptr (H0.cs s),.dptr [E3 boxes],.dptr [E2 l],.dptr [I64 r3],.dptr [I64 id_]]) (G3d (cs:=[.dptr (H0.cs s),.dptr [E3 boxes],.dptr [E2 l],.dptr [I64 r3],.dptr [I64 id_]]) O O) O (JLm (.fn 71 [.dptr (H0.cs s),.dptr [E3 boxes],.dptr [E2 l],.dptr [I64 r3],.dptr [I64 id_]]) O (G7 (hK4 ?_))))
 refine Jr fun hK5=>(JLh (OW 1066 1 I64 ([]:List Int)) (G12 1066 3 1 O O O) O (G7 (hK5 (Js fun hK6=>Jr fun hK7=>(JLh (E2 l) (Ge Ry O O O) O (JLl Gx O O O fun hm19=>(JLm (I64 0) O (G7 (hK7 (Gp ?_))))))))))
 obtain⟨b24,kx24,hb24,hkx24,h⟩:=Hv h
 refine Hc (fun i24 (s24:(List Int))=>each b24 kx24 (List.drop i24 l) i24 s24=some r) (fun i24 s24=>[(7,.dptr [I64 id_]),(10,.fn 71 [.dptr (H0.cs s),.dptr [E3 boxes],.dptr [E2 l],.dptr [I64 r3],.dptr [I64 id_]]),(11,OW 1066 1 I64 s24),(18,E2 l),(19,Ei l.length),(20,Ei i24)]) (fun i24 s24=>[(1066,.spare 3 1 s24.length s24.length)]) (fun i24=>l.length - i24) 0 [] h ⟨(.sm O O),⟨⟨_,rfl,.same⟩,G⟩,rfl⟩ ?_
 clear h
 intro i24 s24 hi24 K24 e24
 refine Jr fun hK25=>(JLh (BL (decide ((i24:Int) < (l.length:Int)))) (Hy O O O) O (G7 (hK25 (Js fun hK26=>Gj O (fun hb=>?_) (fun hb=>?_)))))
 ·
  have hk24:=J8 hb
  obtain⟨y24,nx24,hy24,hn24,h⟩:=Hj hi24 hk24
  replace h:=R8 hb24 h
  refine Gm (hK26 ?_)
  obtain⟨kj27,hkj27,h⟩:=G09 h
  refine Yt (fun j27:(List Int)=>kj27 j27=some r) (fun j27=>[(7,.dptr [I64 id_]),(10,.fn 71 [.dptr (H0.cs s),.dptr [E3 boxes],.dptr [E2 l],.dptr [I64 r3],.dptr [I64 id_]]),(11,OW 1066 1 I64 j27),(18,E2 l),(19,Ei l.length),(20,Ei i24)]) (fun j27=>[(1066,.spare 3 1 j27.length j27.length)]) (fun Kj27 ej27=>?_) ?_
  ·
   refine Gp (Jr fun hK28=>(JLh (Ec y24) (Gv (f:=Stowed.av) (xs:=l) (y:=y24) O O O Gx hy24 O) O (JLh (.agg (Stowed.cs y24)) (Gg Ru O O O) O (JLh (.ptr 1067 0) (Jn 1067 4 Ze O O) O (Je (u:=.junk) (J5 (u:=.agg (Stowed.cs y24)) (ds:=[I64 y24.Box,I64 y24.Slot.G3,I64 y24.Slot.Tier,U8 y24.Slot.Half]) G4a O O O O O O O O) (G7 (hK28 ?_)))))))
   refine Gr [(7,.dptr [I64 id_]),(10,.fn 71 [.dptr (H0.cs s),.dptr [E3 boxes],.dptr [E2 l],.dptr [I64 r3],.dptr [I64 id_]]),(11,OW 1066 1 I64 s24),(13,Ec y24),(18,E2 l),(19,Ei l.length),(20,Ei i24)] [(1066,.spare 3 1 s24.length s24.length)] 1067 rfl rfl rfl ⟨⟨_,rfl,.same⟩,G⟩ rfl (by repeat' (first | exact .ptr | constructor)) ?_
   refine Jr fun hK29=>(JLh (Ec y24) (Ga Hu O O O) O (JLh (I64 y24.Box) (Ge Gb O O O) O (JLh (I64 id_) (Ge Gb O O O) O (JLh (BL (decide (y24.Box≠id_))) (G1d O O O) O (JLm (BL (decide (y24.Box≠id_))) O (JLo (.fn 71 [.dptr (H0.cs s),.dptr [E3 boxes],.dptr [E2 l],.dptr [I64 r3],.dptr [I64 id_]]) [] O .sct G (fun hc=>G4 O O) O (JLo (Ec y24) [] O .sct G (fun hc=>Ga Hu O O O) O (JLo (I64 y24.Box) [30] O .sct ⟨Ua,G⟩ (fun hc=>Ge Gb O O O) O ?_))))))))
   obtain⟨r30,hr30,h⟩:=Gd h
   refine JLo (BL r30) [29,31] O .sct ⟨Ua,Ua,G⟩ (fun hc=>Ga9 (args:=[I64 y24.Box]) (caps:=[.dptr (H0.cs s),.dptr [E3 boxes],.dptr [E2 l],.dptr [I64 r3],.dptr [I64 id_]]) O O (J2b F y24.Box s boxes l r3 id_ r30 (Gw hc hr30)) R64 ⟨O,O,G⟩ O) O (JLh (BL ((decide (y24.Box≠id_))&&r30)) (J4 O O O O) O (G7 (hK29 (JCc O h (fun h hb=>?_) (fun h hb=>?_)))))
   ·
    refine G2 (JLm (OW 1066 1 I64 s24) O (JLh (Ec y24) (Ga Hu O O O) O (JLh (I64 y24.Box) (Ge Gb O O O) O (JLh (E1 [y24.Box]) (Ha (xs:=[I64 y24.Box]) O ⟨O,O,G⟩ Gn Jz O O O O) O ?_))))
    obtain⟨ha31,h⟩:=Hp h
    refine JLh (OW 1066 1 I64 (s24++[y24.Box])) (Q8 (f:=I64) (xs:=s24) (ys:=[y24.Box]) O O O O Gn Rt ha31 (fun _=>O) (.inl O) O) O (JLm (OW 1066 1 I64 (s24++[y24.Box])) O (G7 (ej27 _ _ (s24++[y24.Box]) h ⟨(.sm O O),⟨⟨_,rfl,.same⟩,G⟩,rfl⟩)))
   ·
    refine Gm (ej27 _ _ s24 h ⟨(.sm O O),⟨⟨_,rfl,.same⟩,G⟩,rfl⟩)
  ·intro j27 h
   replace h:=app1 hkj27 h
   refine G2 (JLh (I64 ((i24+1:Nat):Int)) (Ht (Hb hk24 hm19) O O O) O (JLm (I64 ((i24+1:Nat):Int)) O (G7 (e24 _ _ (i24+1) j27 (app1 hn24 h) (by omega) ⟨(.sm O O),⟨⟨_,rfl,.same⟩,G⟩,rfl⟩))))
 ·
  have h:=app1 hkx24 (Hk hi24 (H3 hb))
  refine Hi (hK6 (Jr fun hK32=>(JLm (OW 1066 1 I64 s24) O (JLm (OW 1066 1 I64 s24) O (G7 (hK32 (Gq (fin1l (fun r:(List Int)=>(E1 r:AV)) h))))))))

def G17 (F:Nat) (s:H0) (boxes:List Box) (l:List Stowed) (id_:Int):Option ((List Int)×Int):=
 bnd (Yk s boxes l) fun r4=>
 bif (!r4) then
 (some ([],2))
 else
 (bnd (H0f l id_) fun r7=>
  bif (!r7) then
  (some ([],6))
  else
  (bnd (G57 F s boxes l id_) fun r10=>
   some (r10,0)))
theorem G91 (F:Nat) (s:H0) (boxes:List Box) (l:List Stowed) (id_:Int) (r:(List Int)×Int) (h:G17 F s boxes l id_=some r):Pure Ej 10 [.agg (H0.cs s),E3 boxes,E2 l,I64 id_] (·=.tup [E1 r.1,I64 r.2]):=by
 unfold G17 at h
 refine Gy [.tmp 8,.tmp 9] Tryz.func10 O O (Jr fun hK1=>(JLh (.ptr 1013 0) (J7 (cs:=(H0.cs s)) 1013 O O O O O) O (JLh (E1 ([]:List Int)) (H2 1 O O) O (JLm (I64 0) O (G7 (hK1 ?_))))))
 refine Gr [(1,E3 boxes),(2,E2 l),(3,I64 id_),(4,Eb s)] [] 1013 rfl rfl rfl G rfl (by repeat' (first | exact .ptr | constructor)) (Js fun hK2=>Gp (Jr fun hK3=>(JLh (.agg (H0.cs s)) (Gg H7 O O O) O (JLm (E3 boxes) O (JLm (E2 l) O ?_)))))
 obtain⟨r4,hr4,h⟩:=Gd h
 refine JLh (BL r4) (Gi O (Ga4 s boxes l r4 hr4) H56 ⟨O,O,O,O,O,O,G⟩) O (JLh (BL (!r4)) (Q3 (b:=r4) O O) O (JLm (BL (!r4)) O (G7 (hK3 (JCc O h (fun h hb=>?_) (fun h hb=>?_))))))
 ·
  refine Jr fun hK5=>(JLh (E1 ([]:List Int)) (H2 1 O O) O (JLm (I64 2) O (G7 (hK5 (Gq (⟨[E1 ([]:List Int),I64 2],[],G,O,⟨⟨_,O,.conv (.same O)⟩,⟨_,O,.conv (.same O)⟩,G⟩,O,congrArg (fun r:(List Int)×Int=>(.tup [E1 r.1,I64 r.2]:AV)) (Kj h)⟩))))))
 ·
  refine Jr fun hK6=>(JLm (E2 l) O (JLm (I64 id_) O ?_))
  obtain⟨r7,hr7,h⟩:=Gd h
  refine JLh (BL r7) (Gi O (J87 l id_ r7 hr7) Q13 ⟨O,O,O,O,G⟩) O (JLh (BL (!r7)) (Q3 (b:=r7) O O) O (JLm (BL (!r7)) O (G7 (hK6 (JCc O h (fun h hb=>?_) (fun h hb=>?_))))))
  ·
   refine Jr fun hK8=>(JLh (E1 ([]:List Int)) (H2 1 O O) O (JLm (I64 6) O (G7 (hK8 (Gq (⟨[E1 ([]:List Int),I64 6],[],G,O,⟨⟨_,O,.conv (.same O)⟩,⟨_,O,.conv (.same O)⟩,G⟩,O,congrArg (fun r:(List Int)×Int=>(.tup [E1 r.1,I64 r.2]:AV)) (Kj h)⟩))))))
  ·
   refine Gm (hK2 (Jr fun hK9=>(JLh (.agg (H0.cs s)) (Gg H7 O O O) O (JLm (E3 boxes) O (JLm (E2 l) O (JLm (I64 id_) O ?_))))))
   obtain⟨r10,hr10,h⟩:=Gd h
   refine JLh (E1 r10) (Gi O (H8d F s boxes l id_ r10 hr10) Q12 ⟨O,O,O,O,O,O,O,O,G⟩) O (JLm (E1 r10) O (JLm (I64 0) O (G7 (hK9 (Gq (⟨[E1 r10,I64 0],[],G,O,⟨⟨_,O,.conv (.same O)⟩,⟨_,O,.conv (.same O)⟩,G⟩,O,congrArg (fun r:(List Int)×Int=>(.tup [E1 r.1,I64 r.2]:AV)) (Kj h)⟩))))))

def Gcd (F:Nat) (s:H0) (boxes:List Box) (l:List Stowed):Option (Int×(List Int)×(List Int)×Int):=
 bnd (Yk s boxes l) fun r4=>
 bif (!r4) then
 (some (0,[],[],2))
 else
 (bif decide ((l.length:Int)=0) then
  (some (0,[],[],6))
  else
  (Qm l 0 fun y10=>
   bnd (Jx boxes y10.Box) fun r12=>
   each (fun y27 i27 (s27:Int) nx27=>
    bnd (Jx boxes y27.Box) fun r32=>
    nx27 (min s27 r32))
   (fun(s27:Int)=>
    each (fun y52 i52 (s52:(List Int)) nx52=>
     jp (fun kj55=>
      bnd (Jx boxes y52.Box) fun r58=>
      bif decide (r58=s27) then
      (need (decide ((s52.length+[y52.Box].length)*8≤140737488355328∧s52.length+[y52.Box].length≤maxLen)) <|
       kj55 (s52++[y52.Box]))
      else
      (kj55 s52)) fun(j55:(List Int))=>
     nx52 j55)
    (fun(s52:(List Int))=>
     bnd (G0a F s boxes l s52) fun r61=>
     each (fun y80 i80 (s80:(List Int)) nx80=>
      jp (fun kj83=>
       bnd (Jx boxes y80) fun r86=>
       bif decide (r86≠s27) then
       (need (decide ((s80.length+[y80].length)*8≤140737488355328∧s80.length+[y80].length≤maxLen)) <|
        kj83 (s80++[y80]))
       else
       (kj83 s80)) fun(j83:(List Int))=>
      nx80 j83)
     (fun(s80:(List Int))=>
      some (s27,s52,s80,0)) r61.1 0 []) l 0 []) l 0 r12))
theorem H8e (F:Nat) (s:H0) (boxes:List Box) (l:List Stowed) (r:Int×(List Int)×(List Int)×Int) (h:Gcd F s boxes l=some r):Pure Ej 14 [.agg (H0.cs s),E3 boxes,E2 l] (·=.tup [I64 r.1,E1 r.2.1,E1 r.2.2.1,I64 r.2.2.2]):=by
 unfold Gcd at h
 refine Gy [.tmp 6,.tmp 7,.tmp 8,.tmp 9] Tryz.func14 O O (Jr fun hK1=>(JLh (.ptr 1022 0) (J7 (cs:=(H0.cs s)) 1022 O O O O O) O (JLm (I64 0) O (JLh (E1 ([]:List Int)) (H2 1 O O) O (JLh (E1 ([]:List Int)) (H2 1 O O) O (JLm (I64 0) O (G7 (hK1 ?_))))))))
 refine Gr [(1,E3 boxes),(2,E2 l),(3,Eb s)] [] 1022 rfl rfl rfl G rfl (by exact⟨.conv (.same rfl),.conv (.same rfl),.ptr,G⟩) (Js fun hK2=>Jr fun hK3=>(JLh (.agg (H0.cs s)) (Gg H7 O O O) O (JLm (E3 boxes) O (JLm (E2 l) O ?_))))
 obtain⟨r4,hr4,h⟩:=Gd h
 refine JLh (BL r4) (Gi O (Ga4 s boxes l r4 hr4) H56 ⟨O,O,O,O,O,O,G⟩) O (JLh (BL (!r4)) (Q3 (b:=r4) O O) O (G7 (hK3 (JCc O h (fun h hb=>?_) (fun h hb=>?_)))))
 ·
  refine Jr fun hK5=>(JLm (I64 0) O (JLh (E1 ([]:List Int)) (H2 1 O O) O (JLh (E1 ([]:List Int)) (H2 1 O O) O (JLm (I64 2) O (G7 (hK5 (Gq (⟨[I64 0,E1 ([]:List Int),E1 ([]:List Int),I64 2],[],G,O,⟨⟨_,O,.conv (.same O)⟩,⟨_,O,.conv (.same O)⟩,⟨_,O,.conv (.same O)⟩,⟨_,O,.conv (.same O)⟩,G⟩,O,congrArg (fun r:Int×(List Int)×(List Int)×Int=>(.tup [I64 r.1,E1 r.2.1,E1 r.2.2.1,I64 r.2.2.2]:AV)) (Kj h)⟩))))))))
 ·
  refine Gm (hK2 (Js fun hK6=>Jr fun hK7=>(JLm (E2 l) O (JLl Gx O O O fun hm27=>(JLh (BL (decide ((l.length:Int)=0))) (Ju O O O) O (G7 (hK7 (JCc O h (fun h hb=>?_) (fun h hb=>?_)))))))))
  ·
   refine Jr fun hK8=>(JLm (I64 0) O (JLh (E1 ([]:List Int)) (H2 1 O O) O (JLh (E1 ([]:List Int)) (H2 1 O O) O (JLm (I64 6) O (G7 (hK8 (Gq (⟨[I64 0,E1 ([]:List Int),E1 ([]:List Int),I64 6],[],G,O,⟨⟨_,O,.conv (.same O)⟩,⟨_,O,.conv (.same O)⟩,⟨_,O,.conv (.same O)⟩,⟨_,O,.conv (.same O)⟩,G⟩,O,congrArg (fun r:Int×(List Int)×(List Int)×Int=>(.tup [I64 r.1,E1 r.2.1,E1 r.2.2.1,I64 r.2.2.2]:AV)) (Kj h)⟩))))))))
  ·
   refine Gm (hK6 (Jr fun hK9=>(JLm (E3 boxes) O (JLm (E2 l) O ?_))))
   obtain⟨m11,y10,hm11,hy10,h⟩:=Rb h
   refine JLh (Ec y10) (Gv (f:=Stowed.av) (xs:=l) (y:=y10) O O O Gx hy10 hm11) O (JLh (Ec y10) (Ga Hu O O O) O (JLh (I64 y10.Box) (Ge Gb O O O) O ?_))
   obtain⟨r12,hr12,h⟩:=Gd h
   refine JLh (I64 r12) (Gi O (Ye boxes y10.Box r12 hr12) G97 ⟨O,O,O,O,G⟩) O (JLm (I64 r12) O (G7 (hK9 (Js fun hK13=>Jr fun hK14=>(JLm (E2 l) O (JLl Gx O O O fun hm36=>(JLm (I64 0) O (G7 (hK14 (Gp ?_))))))))))
   obtain⟨b27,kx27,hb27,hkx27,h⟩:=Hv h
   refine Hc (fun i27 (s27:Int)=>each b27 kx27 (List.drop i27 l) i27 s27=some r) (fun i27 s27=>[(1,E3 boxes),(2,E2 l),(3,Eb s),(10,I64 s27),(35,E2 l),(36,Ei l.length),(37,Ei i27)]) (fun i27 s27=>[]) (fun i27=>l.length - i27) 0 r12 h ⟨(.sm O O),G,rfl⟩ ?_
   clear h
   intro i27 s27 hi27 K27 e27
   refine Jr fun hK28=>(JLh (BL (decide ((i27:Int) < (l.length:Int)))) (Hy O O O) O (G7 (hK28 (Js fun hK29=>Gj O (fun hb=>?_) (fun hb=>?_)))))
   ·
    have hk27:=J8 hb
    obtain⟨y27,nx27,hy27,hn27,h⟩:=Hj hi27 hk27
    replace h:=R8 hb27 h
    refine Gm (hK29 (Js fun hK30=>Gp (Jr fun hK31=>(JLh (Ec y27) (Gv (f:=Stowed.av) (xs:=l) (y:=y27) O O O Gx hy27 O) O (JLh (.agg (Stowed.cs y27)) (Gg Ru O O O) O (JLh (.ptr 1023 0) (Jn 1023 4 Ze O O) O (Je (u:=.junk) (J5 (u:=.agg (Stowed.cs y27)) (ds:=[I64 y27.Box,I64 y27.Slot.G3,I64 y27.Slot.Tier,U8 y27.Slot.Half]) G4a O O O O O O O O) (G7 (hK31 ?_)))))))))
    refine Gr [(1,E3 boxes),(2,E2 l),(3,Eb s),(10,I64 s27),(12,Ec y27),(35,E2 l),(36,Ei l.length),(37,Ei i27)] [] 1023 rfl rfl rfl G rfl (by repeat' (first | exact .ptr | constructor)) (G2 (JLm (I64 s27) O (JLm (E3 boxes) O (JLh (Ec y27) (Ga Hu O O O) O (JLh (I64 y27.Box) (Ge Gb O O O) O ?_)))))
    obtain⟨r32,hr32,h⟩:=Gd h
    refine JLh (I64 r32) (Gi O (Ye boxes y27.Box r32 hr32) G97 ⟨O,O,O,O,G⟩) O (JLh (I64 (min s27 r32)) (Ycb O O O) O (JLm (I64 (min s27 r32)) O (G7 (hK30 (G2 (JLh (I64 ((i27+1:Nat):Int)) (Ht (Hb hk27 hm36) O O O) O (JLm (I64 ((i27+1:Nat):Int)) O (G7 (e27 _ _ (i27+1) (min s27 r32) (app1 hn27 h) (by omega) ⟨(.sm O O),G,rfl⟩)))))))))
   ·
    have h:=app1 hkx27 (Hk hi27 (H3 hb))
    refine Hi (hK13 (Jr fun hK33=>(JLh (OW 1024 1 I64 ([]:List Int)) (G12 1024 3 1 O O O) O (JLh (OW 1025 1 I64 ([]:List Int)) (G12 1025 3 1 O O O) O (G7 (hK33 (Js fun hK34=>Jr fun hK35=>(JLm (E2 l) O (JLl Gx O O O fun hm49=>(JLm (I64 0) O (G7 (hK35 (Gp ?_)))))))))))))
    obtain⟨b52,kx52,hb52,hkx52,h⟩:=Hv h
    refine Hc (fun i52 (s52:(List Int))=>each b52 kx52 (List.drop i52 l) i52 s52=some r) (fun i52 s52=>[(1,E3 boxes),(2,E2 l),(3,Eb s),(10,I64 s27),(13,OW 1024 1 I64 s52),(14,OW 1025 1 I64 ([]:List Int)),(48,E2 l),(49,Ei l.length),(50,Ei i52)]) (fun i52 s52=>[(1024,.spare 3 1 s52.length s52.length),(1025,.spare 3 1 ([]:List Int).length ([]:List Int).length)]) (fun i52=>l.length - i52) 0 [] h ⟨(.sm O O),⟨⟨_,rfl,.same⟩,⟨_,rfl,.same⟩,G⟩,rfl⟩ ?_
    clear h
    intro i52 s52 hi52 K52 e52
    refine Jr fun hK53=>(JLh (BL (decide ((i52:Int) < (l.length:Int)))) (Hy O O O) O (G7 (hK53 (Js fun hK54=>Gj O (fun hb=>?_) (fun hb=>?_)))))
    ·
     have hk52:=J8 hb
     obtain⟨y52,nx52,hy52,hn52,h⟩:=Hj hi52 hk52
     replace h:=R8 hb52 h
     refine Gm (hK54 ?_)
     obtain⟨kj55,hkj55,h⟩:=G09 h
     refine Yt (fun j55:(List Int)=>kj55 j55=some r) (fun j55=>[(1,E3 boxes),(2,E2 l),(3,Eb s),(10,I64 s27),(13,OW 1024 1 I64 j55),(14,OW 1025 1 I64 ([]:List Int)),(48,E2 l),(49,Ei l.length),(50,Ei i52)]) (fun j55=>[(1024,.spare 3 1 j55.length j55.length),(1025,.spare 3 1 ([]:List Int).length ([]:List Int).length)]) (fun Kj55 ej55=>?_) ?_
     ·
      refine Gp (Jr fun hK56=>(JLh (Ec y52) (Gv (f:=Stowed.av) (xs:=l) (y:=y52) O O O Gx hy52 O) O (JLh (.agg (Stowed.cs y52)) (Gg Ru O O O) O (JLh (.ptr 1026 0) (Jn 1026 4 Ze O O) O (Je (u:=.junk) (J5 (u:=.agg (Stowed.cs y52)) (ds:=[I64 y52.Box,I64 y52.Slot.G3,I64 y52.Slot.Tier,U8 y52.Slot.Half]) G4a O O O O O O O O) (G7 (hK56 ?_)))))))
      refine Gr [(1,E3 boxes),(2,E2 l),(3,Eb s),(10,I64 s27),(13,OW 1024 1 I64 s52),(14,OW 1025 1 I64 ([]:List Int)),(16,Ec y52),(48,E2 l),(49,Ei l.length),(50,Ei i52)] [(1024,.spare 3 1 s52.length s52.length),(1025,.spare 3 1 ([]:List Int).length ([]:List Int).length)] 1026 rfl rfl rfl ⟨⟨_,rfl,.same⟩,⟨_,rfl,.same⟩,G⟩ rfl (by repeat' (first | exact .ptr | constructor)) ?_
      refine Jr fun hK57=>(JLm (E3 boxes) O (JLh (Ec y52) (Ga Hu O O O) O (JLh (I64 y52.Box) (Ge Gb O O O) O ?_)))
      obtain⟨r58,hr58,h⟩:=Gd h
      refine JLh (I64 r58) (Gi O (Ye boxes y52.Box r58 hr58) G97 ⟨O,O,O,O,G⟩) O (JLm (I64 s27) O (JLh (BL (decide (r58=s27))) (Ju O O O) O (G7 (hK57 (JCc O h (fun h hb=>?_) (fun h hb=>?_))))))
      ·
       refine G2 (JLm (OW 1024 1 I64 s52) O (JLh (Ec y52) (Ga Hu O O O) O (JLh (I64 y52.Box) (Ge Gb O O O) O (JLh (E1 [y52.Box]) (Ha (xs:=[I64 y52.Box]) O ⟨O,O,G⟩ Gn Jz O O O O) O ?_))))
       obtain⟨ha59,h⟩:=Hp h
       refine JLh (OW 1024 1 I64 (s52++[y52.Box])) (Q8 (f:=I64) (xs:=s52) (ys:=[y52.Box]) O O O O Gn Rt ha59 (fun _=>O) (.inl O) O) O (JLm (OW 1024 1 I64 (s52++[y52.Box])) O (G7 (ej55 _ _ (s52++[y52.Box]) h ⟨(.sm O O),⟨⟨_,rfl,.same⟩,⟨_,rfl,.same⟩,G⟩,rfl⟩)))
      ·
       refine Gm (ej55 _ _ s52 h ⟨(.sm O O),⟨⟨_,rfl,.same⟩,⟨_,rfl,.same⟩,G⟩,rfl⟩)
     ·intro j55 h
      replace h:=app1 hkj55 h
      refine G2 (JLh (I64 ((i52+1:Nat):Int)) (Ht (Hb hk52 hm49) O O O) O (JLm (I64 ((i52+1:Nat):Int)) O (G7 (e52 _ _ (i52+1) j55 (app1 hn52 h) (by omega) ⟨(.sm O O),⟨⟨_,rfl,.same⟩,⟨_,rfl,.same⟩,G⟩,rfl⟩))))
    ·
     have h:=app1 hkx52 (Hk hi52 (H3 hb))
     refine Hi (hK34 (Jr fun hK60=>(JLh (.agg (H0.cs s)) (Gg H7 O O O) O (JLm (E3 boxes) O (JLm (E2 l) O (JLm (OW 1024 1 I64 s52) O ?_))))))
     obtain⟨r61,hr61,h⟩:=Gd h
     refine JLh (.tup [E1 r61.1,I64 r61.2]) (Gi O (H68.down F s boxes l s52 r61 hr61) J48 ⟨O,O,O,O,O,O,O,O,G⟩) O (JLm (.tup [E1 r61.1,I64 r61.2]) O (JLh (E1 r61.1) (H4 O O O) O (JLh (I64 r61.2) (H4 O O O) O (JLm (E1 r61.1) O (JLm (I64 r61.2) O (G7 (hK60 (Js fun hK62=>Jr fun hK63=>(JLm (E1 r61.1) O (JLl Gn O O O fun hm75=>(JLm (I64 0) O (G7 (hK63 (Gp ?_))))))))))))))
     obtain⟨b80,kx80,hb80,hkx80,h⟩:=Hv h
     refine Hc (fun i80 (s80:(List Int))=>each b80 kx80 (List.drop i80 r61.1) i80 s80=some r) (fun i80 s80=>[(1,E3 boxes),(10,I64 s27),(13,OW 1024 1 I64 s52),(14,OW 1025 1 I64 s80),(74,E1 r61.1),(75,Ei r61.1.length),(76,Ei i80)]) (fun i80 s80=>[(1024,.spare 3 1 s52.length s52.length),(1025,.spare 3 1 s80.length s80.length)]) (fun i80=>r61.1.length - i80) 0 [] h ⟨(.sm O O),⟨⟨_,rfl,.same⟩,⟨_,rfl,.same⟩,G⟩,rfl⟩ ?_
     clear h
     intro i80 s80 hi80 K80 e80
     refine Jr fun hK81=>(JLh (BL (decide ((i80:Int) < (r61.1.length:Int)))) (Hy O O O) O (G7 (hK81 (Js fun hK82=>Gj O (fun hb=>?_) (fun hb=>?_)))))
     ·
      have hk80:=J8 hb
      obtain⟨y80,nx80,hy80,hn80,h⟩:=Hj hi80 hk80
      replace h:=R8 hb80 h
      refine Gm (hK82 ?_)
      obtain⟨kj83,hkj83,h⟩:=G09 h
      refine Yt (fun j83:(List Int)=>kj83 j83=some r) (fun j83=>[(1,E3 boxes),(10,I64 s27),(13,OW 1024 1 I64 s52),(14,OW 1025 1 I64 j83),(74,E1 r61.1),(75,Ei r61.1.length),(76,Ei i80)]) (fun j83=>[(1024,.spare 3 1 s52.length s52.length),(1025,.spare 3 1 j83.length j83.length)]) (fun Kj83 ej83=>?_) ?_
      ·
       refine Gp (Jr fun hK84=>(JLh (.dptr [I64 y80]) (Gv (f:=I64) (xs:=r61.1) (y:=y80) O O O Gn hy80 O) O (JLh (I64 y80) (Ge Gb O O O) O (JLm (I64 y80) O (G7 (hK84 (Jr fun hK85=>(JLm (E3 boxes) O (JLm (I64 y80) O ?_)))))))))
       obtain⟨r86,hr86,h⟩:=Gd h
       refine JLh (I64 r86) (Gi O (Ye boxes y80 r86 hr86) G97 ⟨O,O,O,O,G⟩) O (JLm (I64 s27) O (JLh (BL (decide (r86≠s27))) (G1d O O O) O (G7 (hK85 (JCc O h (fun h hb=>?_) (fun h hb=>?_))))))
       ·
        refine G2 (JLm (OW 1025 1 I64 s80) O (JLm (I64 y80) O (JLh (E1 [y80]) (Ha (xs:=[I64 y80]) O ⟨O,O,G⟩ Gn Jz O O O O) O ?_)))
        obtain⟨ha87,h⟩:=Hp h
        refine JLh (OW 1025 1 I64 (s80++[y80])) (Q8 (f:=I64) (xs:=s80) (ys:=[y80]) O O O O Gn Rt ha87 (fun _=>O) (.inl O) O) O (JLm (OW 1025 1 I64 (s80++[y80])) O (G7 (ej83 _ _ (s80++[y80]) h ⟨(.sm O O),⟨⟨_,rfl,.same⟩,⟨_,rfl,.same⟩,G⟩,rfl⟩)))
       ·
        refine Gm (ej83 _ _ s80 h ⟨(.sm O O),⟨⟨_,rfl,.same⟩,⟨_,rfl,.same⟩,G⟩,rfl⟩)
      ·intro j83 h
       replace h:=app1 hkj83 h
       refine G2 (JLh (I64 ((i80+1:Nat):Int)) (Ht (Hb hk80 hm75) O O O) O (JLm (I64 ((i80+1:Nat):Int)) O (G7 (e80 _ _ (i80+1) j83 (app1 hn80 h) (by omega) ⟨(.sm O O),⟨⟨_,rfl,.same⟩,⟨_,rfl,.same⟩,G⟩,rfl⟩))))
     ·
      have h:=app1 hkx80 (Hk hi80 (H3 hb))
      refine Hi (hK62 (Jr fun hK88=>(JLm (I64 s27) O (JLm (OW 1024 1 I64 s52) O (JLm (OW 1025 1 I64 s80) O (JLm (I64 s27) O (JLm (OW 1024 1 I64 s52) O (JLm (OW 1025 1 I64 s80) O (JLm (I64 0) O (G7 (hK88 (Gq (⟨[I64 s27,E1 s52,E1 s80,I64 0],[],G,O,⟨⟨_,O,.conv (.same O)⟩,⟨_,O,.conv (.list O)⟩,⟨_,O,.conv (.list O)⟩,⟨_,O,.conv (.same O)⟩,G⟩,O,congrArg (fun r:Int×(List Int)×(List Int)×Int=>(.tup [I64 r.1,E1 r.2.1,E1 r.2.2.1,I64 r.2.2.2]:AV)) (Kj h)⟩)))))))))))))

def H4b (s:H0) (boxes:List Box) (l:List Stowed) (b:Box):Option Unit:=
 some ()
abbrev Ey (s:H0) (b:Box) (boxes:List Box) (l:List Stowed):List AV:=[.dptr (H0.cs s),Ee b,.dptr [E3 boxes],.dptr [E2 l]]
theorem Q5c (s:H0) (boxes:List Box) (l:List Stowed) (b:Box) (r:Unit) (h:H4b s boxes l b=some r):Pure Ej 50 [.agg (H0.cs s),E3 boxes,E2 l,.agg (Box.cs b)] (·=.fn 104 [.dptr (H0.cs s),Ee b,.dptr [E3 boxes],.dptr [E2 l]]):=by
 unfold H4b at h
 refine Gy [.tmp 8] Tryz.func50 O O (Jr fun hK1=>(JLh (.ptr 1088 0) (J7 (cs:=(H0.cs s)) 1088 O O O O O) O (JLh (.ptr 1089 0) (J7 (cs:=[E3 boxes]) 1089 O O O O O) O (JLh (.ptr 1090 0) (J7 (cs:=[E2 l]) 1090 O O O O O) O (JLh (.ptr 1091 0) (J7 (cs:=(Box.cs b)) 1091 O O O O O) O (JLm (.sc .nilFunc) O (G7 (hK1 ?_))))))))
 refine Gr [(4,Eb s),(5,.ptr 1089 0),(6,.ptr 1090 0),(7,.ptr 1091 0)] [(1089,.box 33 [E3 boxes]),(1090,.box 34 [E2 l]),(1091,.box 69 (Box.cs b))] 1088 rfl rfl rfl ⟨⟨_,rfl,.boxEq rfl rfl⟩,⟨_,rfl,.boxEq rfl rfl⟩,⟨_,rfl,.boxEq rfl rfl⟩,G⟩ rfl (by repeat' (first | exact .ptr | constructor)) ?_
 refine Gr [(4,Eb s),(5,.dptr [E3 boxes]),(6,.ptr 1090 0),(7,.ptr 1091 0)] [(1090,.box 34 [E2 l]),(1091,.box 69 (Box.cs b))] 1089 rfl rfl rfl ⟨⟨_,rfl,.boxEq rfl rfl⟩,⟨_,rfl,.boxEq rfl rfl⟩,G⟩ rfl (by repeat' (first | exact .ptr | constructor)) ?_
 refine Gr [(4,Eb s),(5,.dptr [E3 boxes]),(6,.dptr [E2 l]),(7,.ptr 1091 0)] [(1091,.box 69 (Box.cs b))] 1090 rfl rfl rfl ⟨⟨_,rfl,.boxEq rfl rfl⟩,G⟩ rfl (by repeat' (first | exact .ptr | constructor)) ?_
 refine Gr [(4,Eb s),(5,.dptr [E3 boxes]),(6,.dptr [E2 l]),(7,Ee b)] [] 1091 rfl rfl rfl G rfl (by repeat' (first | exact .ptr | constructor)) ?_
 refine Jr fun hK2=>(JLh (.fn 104 (Ey s b boxes l)) (G3d (cs:=(Ey s b boxes l)) O O) O (JLm (.fn 104 (Ey s b boxes l)) O (G7 (hK2 ?_))))
 refine Gq (⟨[.fn 104 (Ey s b boxes l)],[],G,O,⟨⟨_,O,.conv (.same O)⟩,G⟩,O,congrArg (fun _:Unit=>(.fn 104 (Ey s b boxes l):AV)) (Kj h)⟩)

def Yz (F:Nat) (s:H0) (boxes:List Box) (l:List Stowed) (id_:Int):Option ((List Slot)×Int×Int):=
 bnd (Yk s boxes l) fun r4=>
 bif (!r4) then
 (some ([],0,2))
 else
 (bnd (G62 boxes id_) fun r7=>
  bif ((!r7.2)||((decide (r7.1.Size≠20))&&(decide (r7.1.Size≠40)))) then
  (some ([],0,6))
  else
  (bnd (H0f l id_) fun r12=>
   bif r12 then
   (some ([],0,96))
   else
   (bnd (H4b s boxes l r7.1) fun r18=>
    bnd (Gf3 F s r7.1 boxes l) fun ys35=>
    each (fun y35 i35 (s35:(List Slot)×Int×Nat) nx35=>
     bnd (G57 F s boxes y35.2 id_) fun r38=>
     jp (fun kj39=>
      bif ((decide ((s35.1.length:Int)=0))||(decide ((r38.length:Int) < s35.2.1))) then
      (kj39 ((s35.2.2+1),(r38.length:Int),[]))
      else
      (kj39 (s35.2.2,s35.2.1,s35.1))) fun(j39:Nat×Int×(List Slot))=>
     bif decide ((r38.length:Int)=j39.2.1) then
     (need (decide ((j39.2.2.length+[y35.1].length)*24≤140737488355328∧j39.2.2.length+[y35.1].length≤maxLen)) <|
      nx35 ((j39.2.2++[y35.1]),j39.2.1,(j39.1+1)))
     else
     (nx35 (j39.2.2,j39.2.1,j39.1)))
    (fun(s35:(List Slot)×Int×Nat)=>
     bif decide ((s35.1.length:Int)=0) then
     (some ([],0,4))
     else
     (some (s35.1,s35.2.1,0))) ys35 0 ([],0,0))))
theorem Ha9 (F:Nat) (s:H0) (boxes:List Box) (l:List Stowed) (id_:Int) (r:(List Slot)×Int×Int) (h:Yz F s boxes l id_=some r):Pure Ej 20 [.agg (H0.cs s),E3 boxes,E2 l,I64 id_] (·=.tup [E4 r.1,I64 r.2.1,I64 r.2.2]):=by
 unfold Yz at h
 refine Gy [.tmp 8,.tmp 9,.tmp 10] Tryz.func20 O O (Jr fun hK1=>(JLh (.ptr 1032 0) (J7 (cs:=(H0.cs s)) 1032 O O O O O) O (JLh (.ptr 1033 0) (J7 (cs:=[E3 boxes]) 1033 O O O O O) O (JLh (.ptr 1034 0) (J7 (cs:=[I64 id_]) 1034 O O O O O) O (JLh (E4 ([]:List Slot)) (H2 3 O O) O (JLm (I64 0) O (JLm (I64 0) O (G7 (hK1 ?_)))))))))
 refine Gr [(2,E2 l),(4,Eb s),(5,.ptr 1033 0),(7,.ptr 1034 0)] [(1033,.box 33 [E3 boxes]),(1034,.box 3 [I64 id_])] 1032 rfl rfl rfl ⟨⟨_,rfl,.boxEq rfl rfl⟩,⟨_,rfl,.boxEq rfl rfl⟩,G⟩ rfl (by repeat' (first | exact .ptr | constructor)) ?_
 refine Gr [(2,E2 l),(4,Eb s),(5,.dptr [E3 boxes]),(7,.ptr 1034 0)] [(1034,.box 3 [I64 id_])] 1033 rfl rfl rfl ⟨⟨_,rfl,.boxEq rfl rfl⟩,G⟩ rfl (by repeat' (first | exact .ptr | constructor)) ?_
 refine Gr [(2,E2 l),(4,Eb s),(5,.dptr [E3 boxes]),(7,.dptr [I64 id_])] [] 1034 rfl rfl rfl G rfl (by repeat' (first | exact .ptr | constructor)) (Js fun hK2=>Jr fun hK3=>(JLh (.agg (H0.cs s)) (Gg H7 O O O) O (JLh (E3 boxes) (Ge G23 O O O) O (JLm (E2 l) O ?_))))
 obtain⟨r4,hr4,h⟩:=Gd h
 refine JLh (BL r4) (Gi O (Ga4 s boxes l r4 hr4) H56 ⟨O,O,O,O,O,O,G⟩) O (JLh (BL (!r4)) (Q3 (b:=r4) O O) O (G7 (hK3 (JCc O h (fun h hb=>?_) (fun h hb=>?_)))))
 ·
  refine Jr fun hK5=>(JLh (E4 ([]:List Slot)) (H2 3 O O) O (JLm (I64 0) O (JLm (I64 2) O (G7 (hK5 (Gq (⟨[E4 ([]:List Slot),I64 0,I64 2],[],G,O,⟨⟨_,O,.conv (.same O)⟩,⟨_,O,.conv (.same O)⟩,⟨_,O,.conv (.same O)⟩,G⟩,O,congrArg (fun r:(List Slot)×Int×Int=>(.tup [E4 r.1,I64 r.2.1,I64 r.2.2]:AV)) (Kj h)⟩)))))))
 ·
  refine Gm (hK2 (Jr fun hK6=>(JLh (E3 boxes) (Ge G23 O O O) O (JLh (I64 id_) (Ge Gb O O O) O ?_))))
  obtain⟨r7,hr7,h⟩:=Gd h
  refine JLh (.tup [.agg (Box.cs r7.1),BL r7.2]) (Gi O (Gc8 boxes id_ r7 hr7) H54 ⟨O,O,O,O,G⟩) O (JLm (.tup [.agg (Box.cs r7.1),BL r7.2]) O (JLh (.agg (Box.cs r7.1)) (H4 O O O) O (JLh (BL r7.2) (H4 O O O) O (JLh (.ptr 1035 0) (Jn 1035 9 G16 O O) O (Je (u:=.junk) (J5 (u:=.agg (Box.cs r7.1)) (ds:=(Box.cs r7.1)) Zs O O O O O O O O) (JLm (BL r7.2) O (G7 (hK6 ?_))))))))
  refine Gr [(2,E2 l),(4,Eb s),(5,.dptr [E3 boxes]),(7,.dptr [I64 id_]),(11,Ee r7.1),(12,BL r7.2)] [] 1035 rfl rfl rfl G rfl (by repeat' (first | exact .ptr | constructor)) (Js fun hK8=>Gp ?_)
  refine Jr fun hK9=>(JLm (BL r7.2) O (JLh (BL (!r7.2)) (Q3 (b:=r7.2) O O) O (JLm (BL (!r7.2)) O (JLo (.dptr ((Box.cs r7.1).drop 2)) [] O .scf G (fun hc=>Ga Rm O O O) O (JLo (U8 r7.1.Size) [33] O .scf ⟨Ua,G⟩ (fun hc=>Ge J6 O O O) O (JLo (BL (decide (r7.1.Size≠20))) [34] O .scf ⟨Ua,G⟩ (fun hc=>G1d O O O) O (JLo (BL (decide (r7.1.Size≠20))) [35] O .scf ⟨Ua,G⟩ (fun hc=>G4 O O) O (JLo (.dptr ((Box.cs r7.1).drop 2)) [] O .optt G (fun hc=>Ga Rm O O O) O (JLo (U8 r7.1.Size) [37] O .optt ⟨Ua,G⟩ (fun hc=>Ge J6 O O O) O (JLo (BL (decide (r7.1.Size≠40))) [38] O .optt ⟨Ua,G⟩ (fun hc=>G1d O O O) O (G9 (u:=BL ((decide (r7.1.Size≠20))&&(decide (r7.1.Size≠40)))) [(36,BL (decide (r7.1.Size≠20))),(39,_)] O O O .scf ⟨.all id,.part,G⟩ (fun hc=>J4 O O O O) ?_)))))))))))
  refine JLh (BL ((!r7.2)||((decide (r7.1.Size≠20))&&(decide (r7.1.Size≠40))))) (Rs O O O O) O (JLm (BL ((!r7.2)||((decide (r7.1.Size≠20))&&(decide (r7.1.Size≠40))))) O (G7 (hK9 (JCc O h (fun h hb=>?_) (fun h hb=>?_)))))
  ·
   refine Jr fun hK10=>(JLh (E4 ([]:List Slot)) (H2 3 O O) O (JLm (I64 0) O (JLm (I64 6) O (G7 (hK10 (Gq (⟨[E4 ([]:List Slot),I64 0,I64 6],[],G,O,⟨⟨_,O,.conv (.same O)⟩,⟨_,O,.conv (.same O)⟩,⟨_,O,.conv (.same O)⟩,G⟩,O,congrArg (fun r:(List Slot)×Int×Int=>(.tup [E4 r.1,I64 r.2.1,I64 r.2.2]:AV)) (Kj h)⟩)))))))
  ·
   refine Jr fun hK11=>(JLm (E2 l) O (JLh (I64 id_) (Ge Gb O O O) O ?_))
   obtain⟨r12,hr12,h⟩:=Gd h
   refine JLh (BL r12) (Gi O (J87 l id_ r12 hr12) Q13 ⟨O,O,O,O,G⟩) O (JLm (BL r12) O (G7 (hK11 (JCc O h (fun h hb=>?_) (fun h hb=>?_)))))
   ·
    refine Jr fun hK13=>(JLh (E4 ([]:List Slot)) (H2 3 O O) O (JLm (I64 0) O (JLm (I64 96) O (G7 (hK13 (Gq (⟨[E4 ([]:List Slot),I64 0,I64 96],[],G,O,⟨⟨_,O,.conv (.same O)⟩,⟨_,O,.conv (.same O)⟩,⟨_,O,.conv (.same O)⟩,G⟩,O,congrArg (fun r:(List Slot)×Int×Int=>(.tup [E4 r.1,I64 r.2.1,I64 r.2.2]:AV)) (Kj h)⟩)))))))
   ·
    refine Gm (hK8 (Jr fun hK14=>(JLh (.ptr 1036 0) (G34 1036 [.sc (.slice none 0 0)] [.slice none 0 0] Jf8 ⟨.inl O,G⟩ O O) O (Q62 1036 0 1039 71 3 O O O (cs':=[.own 1039 0 3 (([]:List Slot).map Slot.av)]) O (G7 (hK14 (Jr fun hK15=>(JLh (.ptr 1037 0) (Jn 1037 1 Jz O O) O (Je (u:=.junk) (J5 (u:=I64 0) (ds:=[I64 0]) H9e O O O O O O O O) (G7 (hK15 (Js fun hK16=>?_))))))))))))
    refine Jr fun hK17=>(JLh (.agg (H0.cs s)) (Gg H7 O O O) O (JLh (E3 boxes) (Ge G23 O O O) O (JLm (E2 l) O (JLh (.agg (Box.cs r7.1)) (Gg G48 O O O) O ?_))))
    obtain⟨r18,hr18,h⟩:=Gd h
    refine JLh (.fn 104 [.dptr (H0.cs s),Ee r7.1,.dptr [E3 boxes],.dptr [E2 l]]) (Gi O (Q5c s boxes l r7.1 r18 hr18) R6c ⟨O,O,O,O,O,O,O,O,G⟩) O (G7 (hK17 (Gp ?_)))
    obtain⟨ys35,hy_35,h⟩:=Gd h
    obtain⟨b35,kx35,hb35,hkx35,h⟩:=Hv h
    refine J89 (ps:=[51,52]) [(4,Eb s),(5,.dptr [E3 boxes]),(7,.dptr [I64 id_]),(13,.ptr 1036 0),(14,.ptr 1037 0),(50,.fn 104 [.dptr (H0.cs s),Ee r7.1,.dptr [E3 boxes],.dptr [E2 l]])] (ys35.map (fun y:Slot×(List Stowed)=>[.agg (Slot.cs y.1),E2 y.2])) (fun i35 (s35:(List Slot)×Int×Nat)=>each b35 kx35 (List.drop i35 ys35) i35 s35=some r) (fun s35=>[(1039,.spare 71 3 s35.2.2 s35.1.length),(1036,.box 57 [.own 1039 s35.2.2 3 (s35.1.map Slot.av)]),(1037,.box 3 [I64 s35.2.1])]) ([],0,0) rfl rfl rfl R0e (Ja6.down F s r7.1 boxes l ys35 hy_35) h ⟨(.sm O O),⟨⟨_,rfl,.same⟩,⟨_,rfl,.boxL rfl ⟨.same rfl,trivial⟩⟩,⟨_,rfl,.boxL rfl ⟨.same rfl,trivial⟩⟩,trivial⟩,rfl⟩ rfl (fun us_ hus_=>by obtain⟨_,_,rfl⟩:=Ku.1 hus_; rfl) (fun p_ hp_=>Nat.blt_eq.mp (by revert p_; decide)) (fun _=>(.sm O O)) (fun _=>rfl) ?_ ?_
    ·
     intro i35 us_ s35 hu_ hi35 lr_ K35 e35
     obtain⟨hk35,rfl⟩:=Rba hu_
     obtain⟨y35,nx35,hy35,hn35,h⟩:=Hj hi35 hk35
     replace h:=R8 hb35 h
     obtain⟨_,rfl⟩:=Kh hy35
     generalize ys35[i35]=y35 at h ⊢
     change JC _ _ _ _ [(52,E2 y35.2),(51,.agg (Slot.cs y35.1)),(4,Eb s),(5,.dptr [E3 boxes]),(7,.dptr [I64 id_]),(13,.ptr 1036 0),(14,.ptr 1037 0),(50,.fn 104 [.dptr (H0.cs s),Ee r7.1,.dptr [E3 boxes],.dptr [E2 l]])] [(1039,.spare 71 3 s35.2.2 s35.1.length),(1036,.box 57 [.own 1039 s35.2.2 3 (s35.1.map Slot.av)]),(1037,.box 3 [I64 s35.2.1])]
     refine Jr fun hK36=>(JLh (.ptr 1038 0) (Jn 1038 3 G15 O O) O (Je (u:=.junk) (J5 (u:=.agg (Slot.cs y35.1)) (ds:=[I64 y35.1.G3,I64 y35.1.Tier,U8 y35.1.Half]) H50 O O O O O O O O) (G7 (hK36 ?_))))
     refine Gr [(4,Eb s),(5,.dptr [E3 boxes]),(7,.dptr [I64 id_]),(13,.ptr 1036 0),(14,.ptr 1037 0),(15,Eg y35.1),(52,E2 y35.2)] [(1039,.spare 71 3 s35.2.2 s35.1.length),(1036,.box 57 [.own 1039 s35.2.2 3 (s35.1.map Slot.av)]),(1037,.box 3 [I64 s35.2.1])] 1038 rfl rfl rfl ⟨⟨_,rfl,.same⟩,⟨_,rfl,.boxEq rfl rfl⟩,⟨_,rfl,.boxEq rfl rfl⟩,G⟩ rfl (by repeat' (first | exact .ptr | constructor)) (G2 (JLm (E2 y35.2) O (G7 (Y33 (Gp ?_)))))
     refine Jr fun hK37=>(JLh (.agg (H0.cs s)) (Gg H7 O O O) O (JLh (E3 boxes) (Ge G23 O O O) O (JLm (E2 y35.2) O (JLh (I64 id_) (Ge Gb O O O) O ?_))))
     obtain⟨r38,hr38,h⟩:=Gd h
     refine JLh (E1 r38) (Gi O (H8d F s boxes y35.2 id_ r38 hr38) Q12 ⟨O,O,O,O,O,O,O,O,G⟩) O (JLl Gn O O O fun hm58=>(JLm (Ei r38.length) O (G7 (hK37 ?_))))
     obtain⟨kj39,hkj39,h⟩:=G09 h
     refine Yt (fun j39:Nat×Int×(List Slot)=>kj39 j39=some r) (fun j39=>[(13,.ptr 1036 0),(14,.ptr 1037 0),(15,Eg y35.1),(17,Ei r38.length)]) (fun j39=>[(1039,.spare 71 3 j39.1 j39.2.2.length),(1037,.box 3 [I64 j39.2.1]),(1036,.box 57 [.own 1039 j39.1 3 (j39.2.2.map Slot.av)])]) (fun Kj39 ej39=>?_) ?_
     ·
      refine Jr fun hK40=>(JLh (.own 1039 s35.2.2 3 (s35.1.map Slot.av)) (G04 G78 O O O O) O (JLl Ja O O O fun hm60=>(JLh (BL (decide ((s35.1.length:Int)=0))) (Ju O O O) O (JLm (BL (decide ((s35.1.length:Int)=0))) O (JLo (Ei r38.length) [] O .scf G (fun hc=>G4 O O) O (JLo (I64 s35.2.1) [] O .scf G (fun hc=>G04 Gb O O O O) O (JLo (BL (decide ((r38.length:Int) < s35.2.1))) [63,64] O .scf ⟨Ua,Ua,G⟩ (fun hc=>Hy O O O) O (JLh (BL ((decide ((s35.1.length:Int)=0))||(decide ((r38.length:Int) < s35.2.1)))) (Rs O O O O) O (G7 (hK40 (JCc O h (fun h hb=>?_) (fun h hb=>?_))))))))))))
      ·
       refine G2 (JLm (Ei r38.length) O (Je (u:=.junk) (J5 (u:=.sc (.slice none 0 0)) (ds:=[.sc (.slice none 0 0)]) J3a O O O O O O O O) (R42 1036 0 1039 71 3 s35.2.2 O O O (cs':=[.own 1039 (s35.2.2+1) 3 (([]:List Slot).map Slot.av)]) O (Je (u:=.junk) (J5 (u:=Ei r38.length) (ds:=[Ei r38.length]) H9e O O O O O O O O) (G7 (ej39 _ _ ((s35.2.2+1),(r38.length:Int),[]) h ⟨(.sm O O),⟨⟨_,rfl,.same⟩,⟨_,rfl,.boxL rfl ⟨.same rfl,G⟩⟩,⟨_,rfl,.boxL rfl ⟨.same rfl,G⟩⟩,G⟩,rfl⟩))))))
      ·
       refine Gm (ej39 _ _ (s35.2.2,s35.2.1,s35.1) h ⟨(.sm O O),⟨⟨_,rfl,.same⟩,⟨_,rfl,.boxL rfl ⟨.same rfl,G⟩⟩,⟨_,rfl,.boxL rfl ⟨.same rfl,G⟩⟩,G⟩,rfl⟩)
     ·intro j39 h
      replace h:=app1 hkj39 h
      refine Jr fun hK41=>(JLm (Ei r38.length) O (JLh (I64 j39.2.1) (G04 Gb O O O O) O (JLh (BL (decide ((r38.length:Int)=j39.2.1))) (Ju O O O) O (G7 (hK41 (JCc O h (fun h hb=>?_) (fun h hb=>?_)))))))
      ·
       refine G2 (JLh (.own 1039 j39.1 3 (j39.2.2.map Slot.av)) (G04 G78 O O O O) O (JLh (.agg (Slot.cs y35.1)) (Gg Jh O O O) O (JLh (E4 [y35.1]) (Ha (xs:=[.agg (Slot.cs y35.1)]) O ⟨O,O,G⟩ Ja G15 O O O O) O ?_)))
       obtain⟨ha42,h⟩:=Hp h
       refine JLh (.own 1039 (j39.1+1) 3 ((j39.2.2++[y35.1]).map Slot.av)) (Y0a (f:=Slot.av) (xs:=j39.2.2) (ys:=[y35.1]) O O O O Ja H02 ha42 (fun _=>O) (.inl O)) O (Je (u:=.junk) (J5 (u:=.own 1039 (j39.1+1) 3 ((j39.2.2++[y35.1]).map Slot.av)) (ds:=[.own 1039 (j39.1+1) 3 ((j39.2.2++[y35.1]).map Slot.av)]) J3a O O O O O O O O) (G7 (e35 _ _ ((j39.2.2++[y35.1]),j39.2.1,(j39.1+1)) (app1 hn35 h) ⟨G,⟨⟨_,O,.same⟩,⟨_,O,.boxL O ⟨.same O,G⟩⟩,⟨_,O,.boxL O ⟨.same O,G⟩⟩,G⟩,O⟩)))
      ·
       refine Gm (e35 _ _ (j39.2.2,j39.2.1,j39.1) (app1 hn35 h) ⟨G,⟨⟨_,O,.same⟩,⟨_,O,.boxL O ⟨.same O,G⟩⟩,⟨_,O,.boxL O ⟨.same O,G⟩⟩,G⟩,O⟩)
    ·
     intro s35 h
     rw [Ks] at h
     replace h:=app1 hkx35 (Hk h (Nat.lt_irrefl _))
     refine hK16 (Js fun hK43=>Jr fun hK44=>(JLh (.own 1039 s35.2.2 3 (s35.1.map Slot.av)) (G04 G78 O O O O) O (JLl Ja O O O fun hm76=>(JLh (BL (decide ((s35.1.length:Int)=0))) (Ju O O O) O (G7 (hK44 (G29 (l':=[(13,.ptr 1036 0),(14,.ptr 1037 0),(77,BL (decide ((s35.1.length:Int)=0)))]) (L':=[(1036,.box 57 [E4 s35.1]),(1037,.box 3 [I64 s35.2.1])]) ⟨(.sm O O),⟨⟨_,O,.boxL O ⟨.list O,G⟩⟩,⟨_,O,.boxL O ⟨.same O,G⟩⟩,G⟩,O⟩ (Gr [(13,.dptr [E4 s35.1]),(14,.ptr 1037 0),(77,BL (decide ((s35.1.length:Int)=0)))] [(1037,.box 3 [I64 s35.2.1])] 1036 rfl rfl rfl ⟨⟨_,rfl,.boxEq rfl rfl⟩,G⟩ rfl (by exact⟨.ptr,.conv (.same rfl),.conv (.same rfl),G⟩) ?_))))))))
     refine Gr [(13,.dptr [E4 s35.1]),(14,.dptr [I64 s35.2.1]),(77,BL (decide ((s35.1.length:Int)=0)))] [] 1037 rfl rfl rfl G rfl (by exact⟨.conv (.same rfl),.ptr,.conv (.same rfl),G⟩) (JCc O h (fun h hb=>?_) (fun h hb=>?_))
     ·
      refine Jr fun hK45=>(JLh (E4 ([]:List Slot)) (H2 3 O O) O (JLm (I64 0) O (JLm (I64 4) O (G7 (hK45 (Gq (⟨[E4 ([]:List Slot),I64 0,I64 4],[],G,O,⟨⟨_,O,.conv (.same O)⟩,⟨_,O,.conv (.same O)⟩,⟨_,O,.conv (.same O)⟩,G⟩,O,congrArg (fun r:(List Slot)×Int×Int=>(.tup [E4 r.1,I64 r.2.1,I64 r.2.2]:AV)) (Kj h)⟩)))))))
     ·
      refine Gm (hK43 (Js fun hK46=>JC_d0 Jb (by kernel_rfl) (Dq (E4 s35.1) (Ge G78 O O O) O (Dq (I64 s35.2.1) (Ge Gb O O O) O (Dq (E4 s35.1) (G6 O O) O (Dq (I64 s35.2.1) (G6 O O) O (Dq (I64 0) (G6 O O) O (Dnil (hK46 (Gq (⟨[E4 s35.1,I64 s35.2.1,I64 0],[],G,O,⟨⟨_,O,.conv (.same O)⟩,⟨_,O,.conv (.same O)⟩,⟨_,O,.conv (.same O)⟩,G⟩,O,congrArg (fun r:(List Slot)×Int×Int=>(.tup [E4 r.1,I64 r.2.1,I64 r.2.2]:AV)) (Kj h)⟩)))))))))))

def Y8 (a:List Slot) (b:List Slot):Option Bool:=
 bif decide ((a.length:Int)≠(b.length:Int)) then
 (some false)
 else
 (each (fun y24 i24 (s24:Unit) nx24=>
   Qm b (i24:Int) fun y29=>
   bif (!decide (y24=y29)) then
   (some false)
   else
   (nx24 ()))
  (fun(s24:Unit)=>
   some true) a 0 ())
theorem Ga0 (a:List Slot) (b:List Slot) (r:Bool) (h:Y8 a b=some r):Pure Ej 22 [E4 a,E4 b] (·=BL r):=by
 unfold Y8 at h
 refine Gy [.tmp 4] Tryz.func22 O O (Jr fun hK1=>(JLm (BL false) O (G7 (hK1 (Js fun hK2=>Jr fun hK3=>(JLm (E4 a) O (JLl Ja O O O fun hm7=>(JLm (E4 b) O (JLl Ja O O O fun hm9=>(JLh (BL (decide ((a.length:Int)≠(b.length:Int)))) (G1d O O O) O (G7 (hK3 (JCc O h (fun h hb=>?_) (fun h hb=>?_))))))))))))))
 ·
  refine Jr fun hK4=>(JLm (BL false) O (G7 (hK4 (Gq (fin1 BL h)))))
 ·
  refine Gm (hK2 (Js fun hK5=>Jr fun hK6=>(JLm (I64 0) O (G7 (hK6 (Gp ?_))))))
  obtain⟨b24,kx24,hb24,hkx24,h⟩:=Hv h
  refine Hc (fun i24 (s24:Unit)=>each b24 kx24 (List.drop i24 a) i24 s24=some r) (fun i24 s24=>[(0,E4 a),(1,E4 b),(5,Ei i24)]) (fun i24 s24=>[]) (fun i24=>a.length - i24) 0 () h ⟨(.sm O O),G,O⟩ ?_
  clear h
  intro i24 s24 hi24 K24 e24
  refine Js fun hK25=>Jr fun hK26=>(JLm (Ei i24) O (JLm (E4 a) O (JLl Ja O O O fun hm13=>(JLh (BL (decide ((i24:Int) < (a.length:Int)))) (Hy O O O) O (G7 (hK26 (Gj O (fun hb=>?_) (fun hb=>?_))))))))
  ·
   have hk24:=J8 hb
   obtain⟨y24,nx24,hy24,hn24,h⟩:=Hj hi24 hk24
   replace h:=R8 hb24 h
   refine Gm (hK25 (Js fun hK27=>Gp (Js fun hK28=>?_)))
   obtain⟨m30,y29,hm30,hy29,h⟩:=Rb h
   refine JC_d0 Jb (by kernel_rfl) (Dq (E4 a) (G4 O O) O (Dq (Ei i24) (G4 O O) O (Dq (Eg y24) (Gv (f:=Slot.av) (xs:=a) (y:=y24) O O O Ja hy24 O) O (Dq (.agg (Slot.cs y24)) (Gg Jh O O O) O (Dq (E4 b) (G4 O O) O (Dq (Ei i24) (G4 O O) O (Dq (Eg y29) (Gv (f:=Slot.av) (xs:=b) (y:=y29) O O O Ja hy29 hm30) O (Dq (.agg (Slot.cs y29)) (Gg Jh O O O) O (Dq (BL (!decide (y24=y29))) (Qdd (vs:=[.int .i64 y24.G3,.int .i64 y24.Tier,.int .u8 y24.Half]) (us:=[.int .i64 y29.G3,.int .i64 y29.Tier,.int .u8 y29.Half]) 4 O (Y73 y24 y29) Jc4 Q87 O O O) O (Dnil (hK28 (JCc O h (fun h hb=>?_) (fun h hb=>?_)))))))))))))
   ·
    refine Jr fun hK31=>(JLm (BL false) O (G7 (hK31 (Gq (fin1 BL h)))))
   ·
    refine Gm (hK27 (G2 (JLm (Ei i24) O (JLh (I64 ((i24+1:Nat):Int)) (Ht (Hb hk24 hm13) O O O) O (JLm (I64 ((i24+1:Nat):Int)) O (G7 (e24 _ _ (i24+1) () (app1 hn24 h) (by omega) ⟨(.sm O O),G,rfl⟩)))))))
  ·
   have h:=app1 hkx24 (Hk hi24 (H3 hb))
   refine Hi (hK5 (Jr fun hK32=>(JLm (BL true) O (G7 (hK32 (Gq (fin1 BL h)))))))

def R1 (F:Nat) :Option Bool:=
 bnd (G6a) fun r3=>
 bnd (Zc 1 0 0 0) fun r6=>
 bnd (Zc 2 0 1 0) fun r7=>
 bnd (Zc 3 2 1 0) fun r8=>
 bnd (Zc 6 2 0 1) fun r9=>
 bnd (Zc 7 2 0 2) fun r10=>
 bnd (G17 F r3 [(Box.mk 1 ByteArray.empty 40 false 0 0 1 0 false),(Box.mk 2 ByteArray.empty 40 false 0 0 2 0 false),(Box.mk 3 ByteArray.empty 40 false 0 0 3 0 false),(Box.mk 4 ByteArray.empty 40 false 0 0 1 0 false),(Box.mk 5 ByteArray.empty 40 false 0 0 1 0 false),(Box.mk 6 ByteArray.empty 20 false 0 0 1 0 false),(Box.mk 7 ByteArray.empty 20 false 0 0 2 0 false)] [r6,r7,r8,r9,r10] 2) fun r12=>
 bnd (G17 F r3 [(Box.mk 1 ByteArray.empty 40 false 0 0 1 0 false),(Box.mk 2 ByteArray.empty 40 false 0 0 2 0 false),(Box.mk 3 ByteArray.empty 40 false 0 0 3 0 false),(Box.mk 4 ByteArray.empty 40 false 0 0 1 0 false),(Box.mk 5 ByteArray.empty 40 false 0 0 1 0 false),(Box.mk 6 ByteArray.empty 20 false 0 0 1 0 false),(Box.mk 7 ByteArray.empty 20 false 0 0 2 0 false)] [r6,r7,r8,r9,r10] 3) fun r14=>
 bnd (G17 F r3 [(Box.mk 1 ByteArray.empty 40 false 0 0 1 0 false),(Box.mk 2 ByteArray.empty 40 false 0 0 2 0 false),(Box.mk 3 ByteArray.empty 40 false 0 0 3 0 false),(Box.mk 4 ByteArray.empty 40 false 0 0 1 0 false),(Box.mk 5 ByteArray.empty 40 false 0 0 1 0 false),(Box.mk 6 ByteArray.empty 20 false 0 0 1 0 false),(Box.mk 7 ByteArray.empty 20 false 0 0 2 0 false)] [r6,r7,r8,r9,r10] 7) fun r16=>
 bnd (G20 F r3 [(Box.mk 1 ByteArray.empty 40 false 0 0 1 0 false),(Box.mk 2 ByteArray.empty 40 false 0 0 2 0 false),(Box.mk 3 ByteArray.empty 40 false 0 0 3 0 false),(Box.mk 4 ByteArray.empty 40 false 0 0 1 0 false),(Box.mk 5 ByteArray.empty 40 false 0 0 1 0 false),(Box.mk 6 ByteArray.empty 20 false 0 0 1 0 false),(Box.mk 7 ByteArray.empty 20 false 0 0 2 0 false)] [r6,r7,r8,r9,r10]) fun r18=>
 bnd (Gcd F r3 [(Box.mk 1 ByteArray.empty 40 false 0 0 1 0 false),(Box.mk 2 ByteArray.empty 40 false 0 0 2 0 false),(Box.mk 3 ByteArray.empty 40 false 0 0 3 0 false),(Box.mk 4 ByteArray.empty 40 false 0 0 1 0 false),(Box.mk 5 ByteArray.empty 40 false 0 0 1 0 false),(Box.mk 6 ByteArray.empty 20 false 0 0 1 0 false),(Box.mk 7 ByteArray.empty 20 false 0 0 2 0 false)] [r6,r7,r8,r9,r10]) fun r20=>
 bnd (Yz F r3 [(Box.mk 1 ByteArray.empty 40 false 0 0 1 0 false),(Box.mk 2 ByteArray.empty 40 false 0 0 2 0 false),(Box.mk 3 ByteArray.empty 40 false 0 0 3 0 false),(Box.mk 4 ByteArray.empty 40 false 0 0 1 0 false),(Box.mk 5 ByteArray.empty 40 false 0 0 1 0 false),(Box.mk 6 ByteArray.empty 20 false 0 0 1 0 false),(Box.mk 7 ByteArray.empty 20 false 0 0 2 0 false)] [r6,r7,r8,r9,r10] 4) fun r22=>
 chk (r12.2+r14.2) fun v25=>
 chk (v25+r16.2) fun v26=>
 chk (v26+r18.2) fun v27=>
 chk (v27+r20.2.2.2) fun v28=>
 chk (v28+r22.2.2) fun v29=>
 bnd (bif (!(decide (v29≠0))) then J3 r12.1 [1] else some default) fun r30=>
 bnd (bif (!((decide (v29≠0))||(!r30))) then J3 r14.1 [1,2,6,7] else some default) fun r31=>
 bnd (bif (!(((decide (v29≠0))||(!r30))||(!r31))) then J3 r16.1 [1] else some default) fun r32=>
 bnd (bif (!((((decide (v29≠0))||(!r30))||(!r31))||(!r32))) then J3 r18.1 [2,3,7] else some default) fun r33=>
 bif (((((decide (v29≠0))||(!r30))||(!r31))||(!r32))||(!r33)) then
 (some false)
 else
 (bnd (bif decide (r20.1=1) then J3 r20.2.1 [1,6] else some default) fun r36=>
  bnd (bif ((decide (r20.1=1))&&r36) then J3 r20.2.2.1 [2,3,7] else some default) fun r37=>
  bnd (bif ((((decide (r20.1=1))&&r36)&&r37)&&(decide (r22.2.1=0))) then Y8 r22.1 [(Slot.mk 2 2 0),(Slot.mk 3 0 0),(Slot.mk 4 0 0)] else some default) fun r38=>
  some (((((decide (r20.1=1))&&r36)&&r37)&&(decide (r22.2.1=0)))&&r38))
theorem G28 (F:Nat)  (r:Bool) (h:R1 F =some r):Pure Ej 6 [] (·=BL r):=by
 unfold R1 at h
 refine Gy [.tmp 0] Tryz.func6 O O (Jr fun hK1=>(JLm (BL false) O (G7 (hK1 (Jr fun hK2=>?_)))))
 obtain⟨r3,hr3,h⟩:=Gd h
 refine JLh (.agg (H0.cs r3)) (Gi O (H6c  r3 hr3) R78 G) O (JLh (.ptr 1008 0) (Jn 1008 13 Hde O O) O (Je (u:=.junk) (J5 (u:=.agg (H0.cs r3)) (ds:=(H0.cs r3)) H51 O O O O O O O O) (G7 (hK2 (Gr [(1,Eb r3)] [] 1008 rfl rfl rfl G rfl (by exact⟨.ptr,G⟩) ?_)))))
 refine Jr fun hK4=>(JLh (.agg [I64 1,ST Kc,U8 40,BL false,I64 0,I64 0,I64 1,U8 0,BL false]) (Jk (cs:=[I64 1,ST Kc,U8 40,BL false,I64 0,I64 0,I64 1,U8 0,BL false]) [(0,1),(1,1),(2,1),(3,1),(4,1),(5,1),(6,1),(7,1),(8,1)] [I64 0,ST Kc,U8 0,BL false,I64 0,I64 0,I64 0,U8 0,BL false] [E0,.string ByteArray.empty,.int .u8 0,.bool false,E0,E0,E0,.int .u8 0,.bool false] G24 G1e ⟨.inl O,.inl O,.inl O,.inl O,.inl O,.inl O,.inl O,.inl O,.inl O,G⟩ O O) O (JLh (.agg [I64 2,ST Kc,U8 40,BL false,I64 0,I64 0,I64 2,U8 0,BL false]) (Jk (cs:=[I64 2,ST Kc,U8 40,BL false,I64 0,I64 0,I64 2,U8 0,BL false]) [(0,1),(1,1),(2,1),(3,1),(4,1),(5,1),(6,1),(7,1),(8,1)] [I64 0,ST Kc,U8 0,BL false,I64 0,I64 0,I64 0,U8 0,BL false] [E0,.string ByteArray.empty,.int .u8 0,.bool false,E0,E0,E0,.int .u8 0,.bool false] G24 G1e ⟨.inl O,.inl O,.inl O,.inl O,.inl O,.inl O,.inl O,.inl O,.inl O,G⟩ O O) O (JLh (.agg [I64 3,ST Kc,U8 40,BL false,I64 0,I64 0,I64 3,U8 0,BL false]) (Jk (cs:=[I64 3,ST Kc,U8 40,BL false,I64 0,I64 0,I64 3,U8 0,BL false]) [(0,1),(1,1),(2,1),(3,1),(4,1),(5,1),(6,1),(7,1),(8,1)] [I64 0,ST Kc,U8 0,BL false,I64 0,I64 0,I64 0,U8 0,BL false] [E0,.string ByteArray.empty,.int .u8 0,.bool false,E0,E0,E0,.int .u8 0,.bool false] G24 G1e ⟨.inl O,.inl O,.inl O,.inl O,.inl O,.inl O,.inl O,.inl O,.inl O,G⟩ O O) O (JLh (.agg [I64 4,ST Kc,U8 40,BL false,I64 0,I64 0,I64 1,U8 0,BL false]) (Jk (cs:=[I64 4,ST Kc,U8 40,BL false,I64 0,I64 0,I64 1,U8 0,BL false]) [(0,1),(1,1),(2,1),(3,1),(4,1),(5,1),(6,1),(7,1),(8,1)] [I64 0,ST Kc,U8 0,BL false,I64 0,I64 0,I64 0,U8 0,BL false] [E0,.string ByteArray.empty,.int .u8 0,.bool false,E0,E0,E0,.int .u8 0,.bool false] G24 G1e ⟨.inl O,.inl O,.inl O,.inl O,.inl O,.inl O,.inl O,.inl O,.inl O,G⟩ O O) O (JLh (.agg [I64 5,ST Kc,U8 40,BL false,I64 0,I64 0,I64 1,U8 0,BL false]) (Jk (cs:=[I64 5,ST Kc,U8 40,BL false,I64 0,I64 0,I64 1,U8 0,BL false]) [(0,1),(1,1),(2,1),(3,1),(4,1),(5,1),(6,1),(7,1),(8,1)] [I64 0,ST Kc,U8 0,BL false,I64 0,I64 0,I64 0,U8 0,BL false] [E0,.string ByteArray.empty,.int .u8 0,.bool false,E0,E0,E0,.int .u8 0,.bool false] G24 G1e ⟨.inl O,.inl O,.inl O,.inl O,.inl O,.inl O,.inl O,.inl O,.inl O,G⟩ O O) O (JLh (.agg [I64 6,ST Kc,U8 20,BL false,I64 0,I64 0,I64 1,U8 0,BL false]) (Jk (cs:=[I64 6,ST Kc,U8 20,BL false,I64 0,I64 0,I64 1,U8 0,BL false]) [(0,1),(1,1),(2,1),(3,1),(4,1),(5,1),(6,1),(7,1),(8,1)] [I64 0,ST Kc,U8 0,BL false,I64 0,I64 0,I64 0,U8 0,BL false] [E0,.string ByteArray.empty,.int .u8 0,.bool false,E0,E0,E0,.int .u8 0,.bool false] G24 G1e ⟨.inl O,.inl O,.inl O,.inl O,.inl O,.inl O,.inl O,.inl O,.inl O,G⟩ O O) O (JLh (.agg [I64 7,ST Kc,U8 20,BL false,I64 0,I64 0,I64 2,U8 0,BL false]) (Jk (cs:=[I64 7,ST Kc,U8 20,BL false,I64 0,I64 0,I64 2,U8 0,BL false]) [(0,1),(1,1),(2,1),(3,1),(4,1),(5,1),(6,1),(7,1),(8,1)] [I64 0,ST Kc,U8 0,BL false,I64 0,I64 0,I64 0,U8 0,BL false] [E0,.string ByteArray.empty,.int .u8 0,.bool false,E0,E0,E0,.int .u8 0,.bool false] G24 G1e ⟨.inl O,.inl O,.inl O,.inl O,.inl O,.inl O,.inl O,.inl O,.inl O,G⟩ O O) O (JLh (E3 [(Box.mk 1 ByteArray.empty 40 false 0 0 1 0 false),(Box.mk 2 ByteArray.empty 40 false 0 0 2 0 false),(Box.mk 3 ByteArray.empty 40 false 0 0 3 0 false),(Box.mk 4 ByteArray.empty 40 false 0 0 1 0 false),(Box.mk 5 ByteArray.empty 40 false 0 0 1 0 false),(Box.mk 6 ByteArray.empty 20 false 0 0 1 0 false),(Box.mk 7 ByteArray.empty 20 false 0 0 2 0 false)]) (Ha (xs:=[.agg [I64 1,ST Kc,U8 40,BL false,I64 0,I64 0,I64 1,U8 0,BL false],.agg [I64 2,ST Kc,U8 40,BL false,I64 0,I64 0,I64 2,U8 0,BL false],.agg [I64 3,ST Kc,U8 40,BL false,I64 0,I64 0,I64 3,U8 0,BL false],.agg [I64 4,ST Kc,U8 40,BL false,I64 0,I64 0,I64 1,U8 0,BL false],.agg [I64 5,ST Kc,U8 40,BL false,I64 0,I64 0,I64 1,U8 0,BL false],.agg [I64 6,ST Kc,U8 20,BL false,I64 0,I64 0,I64 1,U8 0,BL false],.agg [I64 7,ST Kc,U8 20,BL false,I64 0,I64 0,I64 2,U8 0,BL false]]) O ⟨O,O,O,O,O,O,O,O,O,O,O,O,O,O,G⟩ Q1 G16 O O O O) O (JLm (E3 [(Box.mk 1 ByteArray.empty 40 false 0 0 1 0 false),(Box.mk 2 ByteArray.empty 40 false 0 0 2 0 false),(Box.mk 3 ByteArray.empty 40 false 0 0 3 0 false),(Box.mk 4 ByteArray.empty 40 false 0 0 1 0 false),(Box.mk 5 ByteArray.empty 40 false 0 0 1 0 false),(Box.mk 6 ByteArray.empty 20 false 0 0 1 0 false),(Box.mk 7 ByteArray.empty 20 false 0 0 2 0 false)]) O (G7 (hK4 ?_)))))))))))
 refine Jr fun hK5=>?_
 obtain⟨r6,hr6,h⟩:=Gd h
 refine JLh (.agg (Stowed.cs r6)) (Gi O (G1c 1 0 0 0 r6 hr6) H57 ⟨O,O,O,O,O,O,O,O,G⟩) O ?_
 obtain⟨r7,hr7,h⟩:=Gd h
 refine JLh (.agg (Stowed.cs r7)) (Gi O (G1c 2 0 1 0 r7 hr7) H57 ⟨O,O,O,O,O,O,O,O,G⟩) O ?_
 obtain⟨r8,hr8,h⟩:=Gd h
 refine JLh (.agg (Stowed.cs r8)) (Gi O (G1c 3 2 1 0 r8 hr8) H57 ⟨O,O,O,O,O,O,O,O,G⟩) O ?_
 obtain⟨r9,hr9,h⟩:=Gd h
 refine JLh (.agg (Stowed.cs r9)) (Gi O (G1c 6 2 0 1 r9 hr9) H57 ⟨O,O,O,O,O,O,O,O,G⟩) O ?_
 obtain⟨r10,hr10,h⟩:=Gd h
 refine JLh (.agg (Stowed.cs r10)) (Gi O (G1c 7 2 0 2 r10 hr10) H57 ⟨O,O,O,O,O,O,O,O,G⟩) O (JLh (E2 [r6,r7,r8,r9,r10]) (Ha (xs:=[.agg (Stowed.cs r6),.agg (Stowed.cs r7),.agg (Stowed.cs r8),.agg (Stowed.cs r9),.agg (Stowed.cs r10)]) O ⟨O,O,O,O,O,O,O,O,O,O,G⟩ Gx Ze O O O O) O (JLm (E2 [r6,r7,r8,r9,r10]) O (G7 (hK5 ?_))))
 refine Jr fun hK11=>(JLh (.agg (H0.cs r3)) (Gg H7 O O O) O (JLm (E3 [(Box.mk 1 ByteArray.empty 40 false 0 0 1 0 false),(Box.mk 2 ByteArray.empty 40 false 0 0 2 0 false),(Box.mk 3 ByteArray.empty 40 false 0 0 3 0 false),(Box.mk 4 ByteArray.empty 40 false 0 0 1 0 false),(Box.mk 5 ByteArray.empty 40 false 0 0 1 0 false),(Box.mk 6 ByteArray.empty 20 false 0 0 1 0 false),(Box.mk 7 ByteArray.empty 20 false 0 0 2 0 false)]) O (JLm (E2 [r6,r7,r8,r9,r10]) O ?_)))
 obtain⟨r12,hr12,h⟩:=Gd h
 refine JLh (.tup [E1 r12.1,I64 r12.2]) (Gi O (G91 F r3 [(Box.mk 1 ByteArray.empty 40 false 0 0 1 0 false),(Box.mk 2 ByteArray.empty 40 false 0 0 2 0 false),(Box.mk 3 ByteArray.empty 40 false 0 0 3 0 false),(Box.mk 4 ByteArray.empty 40 false 0 0 1 0 false),(Box.mk 5 ByteArray.empty 40 false 0 0 1 0 false),(Box.mk 6 ByteArray.empty 20 false 0 0 1 0 false),(Box.mk 7 ByteArray.empty 20 false 0 0 2 0 false)] [r6,r7,r8,r9,r10] 2 r12 hr12) Hb7 ⟨O,O,O,O,O,O,O,O,G⟩) O (JLm (.tup [E1 r12.1,I64 r12.2]) O (JLh (E1 r12.1) (H4 O O O) O (JLh (I64 r12.2) (H4 O O O) O (JLm (E1 r12.1) O (JLm (I64 r12.2) O (G7 (hK11 ?_)))))))
 refine Jr fun hK13=>(JLh (.agg (H0.cs r3)) (Gg H7 O O O) O (JLm (E3 [(Box.mk 1 ByteArray.empty 40 false 0 0 1 0 false),(Box.mk 2 ByteArray.empty 40 false 0 0 2 0 false),(Box.mk 3 ByteArray.empty 40 false 0 0 3 0 false),(Box.mk 4 ByteArray.empty 40 false 0 0 1 0 false),(Box.mk 5 ByteArray.empty 40 false 0 0 1 0 false),(Box.mk 6 ByteArray.empty 20 false 0 0 1 0 false),(Box.mk 7 ByteArray.empty 20 false 0 0 2 0 false)]) O (JLm (E2 [r6,r7,r8,r9,r10]) O ?_)))
 obtain⟨r14,hr14,h⟩:=Gd h
 refine JLh (.tup [E1 r14.1,I64 r14.2]) (Gi O (G91 F r3 [(Box.mk 1 ByteArray.empty 40 false 0 0 1 0 false),(Box.mk 2 ByteArray.empty 40 false 0 0 2 0 false),(Box.mk 3 ByteArray.empty 40 false 0 0 3 0 false),(Box.mk 4 ByteArray.empty 40 false 0 0 1 0 false),(Box.mk 5 ByteArray.empty 40 false 0 0 1 0 false),(Box.mk 6 ByteArray.empty 20 false 0 0 1 0 false),(Box.mk 7 ByteArray.empty 20 false 0 0 2 0 false)] [r6,r7,r8,r9,r10] 3 r14 hr14) Hb7 ⟨O,O,O,O,O,O,O,O,G⟩) O (JLm (.tup [E1 r14.1,I64 r14.2]) O (JLh (E1 r14.1) (H4 O O O) O (JLh (I64 r14.2) (H4 O O O) O (JLm (E1 r14.1) O (JLm (I64 r14.2) O (G7 (hK13 ?_)))))))
 refine Jr fun hK15=>(JLh (.agg (H0.cs r3)) (Gg H7 O O O) O (JLm (E3 [(Box.mk 1 ByteArray.empty 40 false 0 0 1 0 false),(Box.mk 2 ByteArray.empty 40 false 0 0 2 0 false),(Box.mk 3 ByteArray.empty 40 false 0 0 3 0 false),(Box.mk 4 ByteArray.empty 40 false 0 0 1 0 false),(Box.mk 5 ByteArray.empty 40 false 0 0 1 0 false),(Box.mk 6 ByteArray.empty 20 false 0 0 1 0 false),(Box.mk 7 ByteArray.empty 20 false 0 0 2 0 false)]) O (JLm (E2 [r6,r7,r8,r9,r10]) O ?_)))
 obtain⟨r16,hr16,h⟩:=Gd h
 refine JLh (.tup [E1 r16.1,I64 r16.2]) (Gi O (G91 F r3 [(Box.mk 1 ByteArray.empty 40 false 0 0 1 0 false),(Box.mk 2 ByteArray.empty 40 false 0 0 2 0 false),(Box.mk 3 ByteArray.empty 40 false 0 0 3 0 false),(Box.mk 4 ByteArray.empty 40 false 0 0 1 0 false),(Box.mk 5 ByteArray.empty 40 false 0 0 1 0 false),(Box.mk 6 ByteArray.empty 20 false 0 0 1 0 false),(Box.mk 7 ByteArray.empty 20 false 0 0 2 0 false)] [r6,r7,r8,r9,r10] 7 r16 hr16) Hb7 ⟨O,O,O,O,O,O,O,O,G⟩) O (JLm (.tup [E1 r16.1,I64 r16.2]) O (JLh (E1 r16.1) (H4 O O O) O (JLh (I64 r16.2) (H4 O O O) O (JLm (E1 r16.1) O (JLm (I64 r16.2) O (G7 (hK15 ?_)))))))
 refine Jr fun hK17=>(JLh (.agg (H0.cs r3)) (Gg H7 O O O) O (JLm (E3 [(Box.mk 1 ByteArray.empty 40 false 0 0 1 0 false),(Box.mk 2 ByteArray.empty 40 false 0 0 2 0 false),(Box.mk 3 ByteArray.empty 40 false 0 0 3 0 false),(Box.mk 4 ByteArray.empty 40 false 0 0 1 0 false),(Box.mk 5 ByteArray.empty 40 false 0 0 1 0 false),(Box.mk 6 ByteArray.empty 20 false 0 0 1 0 false),(Box.mk 7 ByteArray.empty 20 false 0 0 2 0 false)]) O (JLm (E2 [r6,r7,r8,r9,r10]) O ?_)))
 obtain⟨r18,hr18,h⟩:=Gd h
 refine JLh (.tup [E1 r18.1,I64 r18.2]) (Gi O (H69.down F r3 [(Box.mk 1 ByteArray.empty 40 false 0 0 1 0 false),(Box.mk 2 ByteArray.empty 40 false 0 0 2 0 false),(Box.mk 3 ByteArray.empty 40 false 0 0 3 0 false),(Box.mk 4 ByteArray.empty 40 false 0 0 1 0 false),(Box.mk 5 ByteArray.empty 40 false 0 0 1 0 false),(Box.mk 6 ByteArray.empty 20 false 0 0 1 0 false),(Box.mk 7 ByteArray.empty 20 false 0 0 2 0 false)] [r6,r7,r8,r9,r10] r18 hr18) Q1c ⟨O,O,O,O,O,O,G⟩) O (JLm (.tup [E1 r18.1,I64 r18.2]) O (JLh (E1 r18.1) (H4 O O O) O (JLh (I64 r18.2) (H4 O O O) O (JLm (E1 r18.1) O (JLm (I64 r18.2) O (G7 (hK17 ?_)))))))
 refine Jr fun hK19=>(JLh (.agg (H0.cs r3)) (Gg H7 O O O) O (JLm (E3 [(Box.mk 1 ByteArray.empty 40 false 0 0 1 0 false),(Box.mk 2 ByteArray.empty 40 false 0 0 2 0 false),(Box.mk 3 ByteArray.empty 40 false 0 0 3 0 false),(Box.mk 4 ByteArray.empty 40 false 0 0 1 0 false),(Box.mk 5 ByteArray.empty 40 false 0 0 1 0 false),(Box.mk 6 ByteArray.empty 20 false 0 0 1 0 false),(Box.mk 7 ByteArray.empty 20 false 0 0 2 0 false)]) O (JLm (E2 [r6,r7,r8,r9,r10]) O ?_)))
 obtain⟨r20,hr20,h⟩:=Gd h
 refine JLh (.tup [I64 r20.1,E1 r20.2.1,E1 r20.2.2.1,I64 r20.2.2.2]) (Gi O (H8e F r3 [(Box.mk 1 ByteArray.empty 40 false 0 0 1 0 false),(Box.mk 2 ByteArray.empty 40 false 0 0 2 0 false),(Box.mk 3 ByteArray.empty 40 false 0 0 3 0 false),(Box.mk 4 ByteArray.empty 40 false 0 0 1 0 false),(Box.mk 5 ByteArray.empty 40 false 0 0 1 0 false),(Box.mk 6 ByteArray.empty 20 false 0 0 1 0 false),(Box.mk 7 ByteArray.empty 20 false 0 0 2 0 false)] [r6,r7,r8,r9,r10] r20 hr20) Q1b ⟨O,O,O,O,O,O,G⟩) O (JLm (.tup [I64 r20.1,E1 r20.2.1,E1 r20.2.2.1,I64 r20.2.2.2]) O (JLh (I64 r20.1) (H4 O O O) O (JLh (E1 r20.2.1) (H4 O O O) O (JLh (E1 r20.2.2.1) (H4 O O O) O (JLh (I64 r20.2.2.2) (H4 O O O) O (JLm (I64 r20.1) O (JLm (E1 r20.2.1) O (JLm (E1 r20.2.2.1) O (JLm (I64 r20.2.2.2) O (G7 (hK19 ?_)))))))))))
 refine Jr fun hK21=>(JLh (.agg (H0.cs r3)) (Gg H7 O O O) O (JLm (E3 [(Box.mk 1 ByteArray.empty 40 false 0 0 1 0 false),(Box.mk 2 ByteArray.empty 40 false 0 0 2 0 false),(Box.mk 3 ByteArray.empty 40 false 0 0 3 0 false),(Box.mk 4 ByteArray.empty 40 false 0 0 1 0 false),(Box.mk 5 ByteArray.empty 40 false 0 0 1 0 false),(Box.mk 6 ByteArray.empty 20 false 0 0 1 0 false),(Box.mk 7 ByteArray.empty 20 false 0 0 2 0 false)]) O (JLm (E2 [r6,r7,r8,r9,r10]) O ?_)))
 obtain⟨r22,hr22,h⟩:=Gd h
 refine JLh (.tup [E4 r22.1,I64 r22.2.1,I64 r22.2.2]) (Gi O (Ha9 F r3 [(Box.mk 1 ByteArray.empty 40 false 0 0 1 0 false),(Box.mk 2 ByteArray.empty 40 false 0 0 2 0 false),(Box.mk 3 ByteArray.empty 40 false 0 0 3 0 false),(Box.mk 4 ByteArray.empty 40 false 0 0 1 0 false),(Box.mk 5 ByteArray.empty 40 false 0 0 1 0 false),(Box.mk 6 ByteArray.empty 20 false 0 0 1 0 false),(Box.mk 7 ByteArray.empty 20 false 0 0 2 0 false)] [r6,r7,r8,r9,r10] 4 r22 hr22) Q17 ⟨O,O,O,O,O,O,O,O,G⟩) O (JLm (.tup [E4 r22.1,I64 r22.2.1,I64 r22.2.2]) O (JLh (E4 r22.1) (H4 O O O) O (JLh (I64 r22.2.1) (H4 O O O) O (JLh (I64 r22.2.2) (H4 O O O) O (JLm (E4 r22.1) O (JLm (I64 r22.2.1) O (JLm (I64 r22.2.2) O (G7 (hK21 (Js fun hK23=>Jr fun hK24=>(JLm (I64 r12.2) O (JLm (I64 r14.2) O ?_))))))))))))
 obtain⟨v25,hv25,h⟩:=Qk h
 refine JLh (I64 v25) (Ht hv25 O O O) O (JLm (I64 r16.2) O ?_)
 obtain⟨v26,hv26,h⟩:=Qk h
 refine JLh (I64 v26) (Ht hv26 O O O) O (JLm (I64 r18.2) O ?_)
 obtain⟨v27,hv27,h⟩:=Qk h
 refine JLh (I64 v27) (Ht hv27 O O O) O (JLm (I64 r20.2.2.2) O ?_)
 obtain⟨v28,hv28,h⟩:=Qk h
 refine JLh (I64 v28) (Ht hv28 O O O) O (JLm (I64 r22.2.2) O ?_)
 obtain⟨v29,hv29,h⟩:=Qk h
 refine JLh (I64 v29) (Ht hv29 O O O) O (JLh (BL (decide (v29≠0))) (G1d O O O) O (JLm (BL (decide (v29≠0))) O (JLo (E1 r12.1) [] O .scf G (fun hc=>G4 O O) O (JLo (E1 [1]) [] O .scf G (fun hc=>Ha (xs:=[I64 1]) O ⟨O,O,G⟩ Gn Jz O O O O) O ?_))))
 obtain⟨r30,hr30,h⟩:=Gd h
 refine JLo (BL r30) [92,93] O .scf ⟨Ua,Ua,G⟩ (fun hc=>Gi (args:=[E1 r12.1,E1 [1]]) O (Jd r12.1 [1] r30 (Gw hc hr30)) G1f ⟨O,O,O,O,G⟩) O (JLo (BL (!r30)) [94] O .scf ⟨Ua,G⟩ (fun hc=>Q3 (b:=r30) O O) O (JLh (BL ((decide (v29≠0))||(!r30))) (Rs O O O O) O (JLm (BL ((decide (v29≠0))||(!r30))) O (JLo (E1 r14.1) [] O .scf G (fun hc=>G4 O O) O (JLo (E1 [1,2,6,7]) [] O .scf G (fun hc=>Ha (xs:=[I64 1,I64 2,I64 6,I64 7]) O ⟨O,O,O,O,O,O,O,O,G⟩ Gn Jz O O O O) O ?_)))))
 obtain⟨r31,hr31,h⟩:=Gd h
 refine JLo (BL r31) [98,99] O .scf ⟨Ua,Ua,G⟩ (fun hc=>Gi (args:=[E1 r14.1,E1 [1,2,6,7]]) O (Jd r14.1 [1,2,6,7] r31 (Gw hc hr31)) G1f ⟨O,O,O,O,G⟩) O (JLo (BL (!r31)) [100] O .scf ⟨Ua,G⟩ (fun hc=>Q3 (b:=r31) O O) O (JLh (BL (((decide (v29≠0))||(!r30))||(!r31))) (Rs O O O O) O (JLm (BL (((decide (v29≠0))||(!r30))||(!r31))) O (JLo (E1 r16.1) [] O .scf G (fun hc=>G4 O O) O (JLo (E1 [1]) [] O .scf G (fun hc=>Ha (xs:=[I64 1]) O ⟨O,O,G⟩ Gn Jz O O O O) O ?_)))))
 obtain⟨r32,hr32,h⟩:=Gd h
 refine JLo (BL r32) [104,105] O .scf ⟨Ua,Ua,G⟩ (fun hc=>Gi (args:=[E1 r16.1,E1 [1]]) O (Jd r16.1 [1] r32 (Gw hc hr32)) G1f ⟨O,O,O,O,G⟩) O (JLo (BL (!r32)) [106] O .scf ⟨Ua,G⟩ (fun hc=>Q3 (b:=r32) O O) O (JLh (BL ((((decide (v29≠0))||(!r30))||(!r31))||(!r32))) (Rs O O O O) O (JLm (BL ((((decide (v29≠0))||(!r30))||(!r31))||(!r32))) O (JLo (E1 r18.1) [] O .scf G (fun hc=>G4 O O) O (JLo (E1 [2,3,7]) [] O .scf G (fun hc=>Ha (xs:=[I64 2,I64 3,I64 7]) O ⟨O,O,O,O,O,O,G⟩ Gn Jz O O O O) O ?_)))))
 obtain⟨r33,hr33,h⟩:=Gd h
 refine JLo (BL r33) [110,111] O .scf ⟨Ua,Ua,G⟩ (fun hc=>Gi (args:=[E1 r18.1,E1 [2,3,7]]) O (Jd r18.1 [2,3,7] r33 (Gw hc hr33)) G1f ⟨O,O,O,O,G⟩) O (JLo (BL (!r33)) [112] O .scf ⟨Ua,G⟩ (fun hc=>Q3 (b:=r33) O O) O (JLh (BL (((((decide (v29≠0))||(!r30))||(!r31))||(!r32))||(!r33))) (Rs O O O O) O (G7 (hK24 (JCc O h (fun h hb=>?_) (fun h hb=>?_))))))
 ·
  refine Jr fun hK34=>(JLm (BL false) O (G7 (hK34 (Gq (fin1 BL h)))))
 ·
  refine Gm (hK23 (Jr fun hK35=>(JLm (I64 r20.1) O (JLh (BL (decide (r20.1=1))) (Ju O O O) O (JLm (BL (decide (r20.1=1))) O (JLo (E1 r20.2.1) [] O .sct G (fun hc=>G4 O O) O (JLo (E1 [1,6]) [] O .sct G (fun hc=>Ha (xs:=[I64 1,I64 6]) O ⟨O,O,O,O,G⟩ Gn Jz O O O O) O ?_)))))))
  obtain⟨r36,hr36,h⟩:=Gd h
  refine JLo (BL r36) [118,119] O .sct ⟨Ua,Ua,G⟩ (fun hc=>Gi (args:=[E1 r20.2.1,E1 [1,6]]) O (Jd r20.2.1 [1,6] r36 (Gw hc hr36)) G1f ⟨O,O,O,O,G⟩) O (JLh (BL ((decide (r20.1=1))&&r36)) (J4 O O O O) O (JLm (BL ((decide (r20.1=1))&&r36)) O (JLo (E1 r20.2.2.1) [] O .sct G (fun hc=>G4 O O) O (JLo (E1 [2,3,7]) [] O .sct G (fun hc=>Ha (xs:=[I64 2,I64 3,I64 7]) O ⟨O,O,O,O,O,O,G⟩ Gn Jz O O O O) O ?_))))
  obtain⟨r37,hr37,h⟩:=Gd h
  refine JLo (BL r37) [123,124] O .sct ⟨Ua,Ua,G⟩ (fun hc=>Gi (args:=[E1 r20.2.2.1,E1 [2,3,7]]) O (Jd r20.2.2.1 [2,3,7] r37 (Gw hc hr37)) G1f ⟨O,O,O,O,G⟩) O (JLh (BL (((decide (r20.1=1))&&r36)&&r37)) (J4 O O O O) O (JLm (BL (((decide (r20.1=1))&&r36)&&r37)) O (JLo (I64 r22.2.1) [] O .sct G (fun hc=>G4 O O) O (JLo (BL (decide (r22.2.1=0))) [128] O .sct ⟨Ua,G⟩ (fun hc=>Ju O O O) O (JLh (BL ((((decide (r20.1=1))&&r36)&&r37)&&(decide (r22.2.1=0)))) (J4 O O O O) O (JLm (BL ((((decide (r20.1=1))&&r36)&&r37)&&(decide (r22.2.1=0)))) O (JLo (E4 r22.1) [] O .sct G (fun hc=>G4 O O) O (JLo (.agg [I64 2,I64 2,U8 0]) [] O .sct G (fun hc=>Jk (cs:=[I64 2,I64 2,U8 0]) [(0,1),(1,1),(2,1)] [I64 0,I64 0,U8 0] [E0,E0,.int .u8 0] G79 Gd1 ⟨.inl O,.inl O,.inl O,G⟩ O O) O (JLo (.agg [I64 3,I64 0,U8 0]) [] O .sct G (fun hc=>Jk (cs:=[I64 3,I64 0,U8 0]) [(0,1),(1,1),(2,1)] [I64 0,I64 0,U8 0] [E0,E0,.int .u8 0] G79 Gd1 ⟨.inl O,.inl O,.inl O,G⟩ O O) O (JLo (.agg [I64 4,I64 0,U8 0]) [] O .sct G (fun hc=>Jk (cs:=[I64 4,I64 0,U8 0]) [(0,1),(1,1),(2,1)] [I64 0,I64 0,U8 0] [E0,E0,.int .u8 0] G79 Gd1 ⟨.inl O,.inl O,.inl O,G⟩ O O) O (JLo (E4 [(Slot.mk 2 2 0),(Slot.mk 3 0 0),(Slot.mk 4 0 0)]) [133,134,135] O .sct ⟨Ua,Ua,Ua,G⟩ (fun hc=>Ha (xs:=[.agg [I64 2,I64 2,U8 0],.agg [I64 3,I64 0,U8 0],.agg [I64 4,I64 0,U8 0]]) O ⟨O,O,O,O,O,O,G⟩ Ja G15 O O O O) O ?_)))))))))))
  obtain⟨r38,hr38,h⟩:=Gd h
  refine JLo (BL r38) [132,136] O .sct ⟨Ua,Ua,G⟩ (fun hc=>Gi (args:=[E4 r22.1,E4 [(Slot.mk 2 2 0),(Slot.mk 3 0 0),(Slot.mk 4 0 0)]]) O (Ga0 r22.1 [(Slot.mk 2 2 0),(Slot.mk 3 0 0),(Slot.mk 4 0 0)] r38 (Gw hc hr38)) Q16 ⟨O,O,O,O,G⟩) O (JLh (BL (((((decide (r20.1=1))&&r36)&&r37)&&(decide (r22.2.1=0)))&&r38)) (J4 O O O O) O (JLm (BL (((((decide (r20.1=1))&&r36)&&r37)&&(decide (r22.2.1=0)))&&r38)) O (G7 (hK35 (Gq (fin1 BL h))))))

def J2 (n:Int) (low:Int) (high:Int):Option Bool:=
 some ((decide (low≤n))&&(decide (n≤high)))
theorem Jc (n:Int) (low:Int) (high:Int) (r:Bool) (h:J2 n low high=some r):Pure Ej 122 [I64 n,I64 low,I64 high] (·=BL r):=by
 unfold J2 at h
 refine Gy [.tmp 6] Tryz.func122 O O (Jr fun hK1=>(JLm (BL false) O (G7 (hK1 (Jr fun hK2=>(JLm (I64 n) O (JLm (I64 low) O (JLh (BL (decide (low≤n))) (G13 O O O) O (JLm (BL (decide (low≤n))) O (JLo (I64 n) [] O .sct G (fun hc=>G4 O O) O (JLo (I64 high) [] O .sct G (fun hc=>G4 O O) O (JLo (BL (decide (n≤high))) [11,12] O .sct ⟨Ua,Ua,G⟩ (fun hc=>J10 O O O) O (JLh (BL ((decide (low≤n))&&(decide (n≤high)))) (J4 O O O O) O (JLm (BL ((decide (low≤n))&&(decide (n≤high)))) O (G7 (hK2 (Gq (fin1 BL h))))))))))))))))))

def Zx (c:G3):Option Bool:=
 each (fun y41 i41 (s41:Unit) nx41=>
  bif ((decide (y41 < 0))||(decide (c.Tiers≤y41))) then
  (some false)
  else
  (bnd (bif decide (0 < (i41:Int)) then chk ((i41:Int) - 1) some else some 0) fun v49=>
   bnd (bif decide (0 < (i41:Int)) then Qm c.Plugs v49 some else some default) fun y50=>
   bif ((decide (0 < (i41:Int)))&&(decide (y41≤y50))) then
   (some false)
   else
   (nx41 ())))
 (fun(s41:Unit)=>
  bnd (J2 c.X (-500000) 500000) fun r53=>
  bnd (bif r53 then J2 c.Y (-500000) 500000 else some default) fun r54=>
  bnd (bif (r53&&r54) then J2 c.Z (-500000) 500000 else some default) fun r55=>
  bnd (J2 c.Kilos20 0 500000000) fun r57=>
  bnd (bif r57 then J2 c.Kilos40 0 500000000 else some default) fun r58=>
  bnd (bif (r57&&r58) then J2 c.Lash 0 1000000000000 else some default) fun r59=>
  bnd (J2 c.Bay 0 39) fun r61=>
  bnd (bif r61 then J2 c.Row 0 30 else some default) fun r62=>
  bnd (bif (r61&&r62) then J2 c.Tiers 1 10 else some default) fun r63=>
  bnd (bif ((r61&&r62)&&r63) then J2 c.Height 0 40000 else some default) fun r64=>
  some (((((r61&&r62)&&r63)&&r64)&&((r57&&r58)&&r59))&&((r53&&r54)&&r55))) c.Plugs 0 ()
abbrev Ez (c:G3):List AV:=[I64 c.Tiers,I64 c.Height,I64 c.Kilos20,I64 c.Kilos40,I64 c.Lash,E1 c.Plugs,I64 c.X,I64 c.Y,I64 c.Z]
theorem H7a (c:G3) (r:Bool) (h:Zx c=some r):Pure Ej 123 [.agg (G3.cs c)] (·=BL r):=by
 unfold Zx at h
 refine Gy [.tmp 2] Tryz.func123 O O (Jr fun hK1=>(JLh (.ptr 1184 0) (J7 (cs:=(G3.cs c)) 1184 O O O O O) O (JLm (BL false) O (G7 (hK1 (Gr [(1,Ed c)] [] 1184 rfl rfl rfl G rfl (by exact⟨.ptr,G⟩) (Js fun hK2=>Jr fun hK3=>(JLm (I64 0) O (G7 (hK3 (Gp ?_)))))))))))
 obtain⟨b41,kx41,hb41,hkx41,h⟩:=Hv h
 refine Hc (fun i41 (s41:Unit)=>each b41 kx41 (List.drop i41 c.Plugs) i41 s41=some r) (fun i41 s41=>[(1,Ed c),(3,Ei i41)]) (fun i41 s41=>[]) (fun i41=>c.Plugs.length - i41) 0 () h ⟨(.sm O O),G,O⟩ ?_
 clear h
 intro i41 s41 hi41 K41 e41
 refine Js fun hK42=>Jr fun hK43=>(JLm (Ei i41) O (JLh (.dptr [E1 c.Plugs,I64 c.X,I64 c.Y,I64 c.Z]) (Ga Rn O O O) O (JLh (E1 c.Plugs) (Ge J1 O O O) O (JLl Gn O O O fun hm9=>(JLh (BL (decide ((i41:Int) < (c.Plugs.length:Int)))) (Hy O O O) O (G7 (hK43 (Gj O (fun hb=>?_) (fun hb=>?_)))))))))
 ·
  have hk41:=J8 hb
  obtain⟨y41,nx41,hy41,hn41,h⟩:=Hj hi41 hk41
  replace h:=R8 hb41 h
  refine Gm (hK42 (Js fun hK44=>Gp (Js fun hK45=>Js fun hK46=>?_)))
  refine JC_d0 Jb (by kernel_rfl) (Dq (.dptr [E1 c.Plugs,I64 c.X,I64 c.Y,I64 c.Z]) (Ga Rn O O O) O (Dq (E1 c.Plugs) (Ge J1 O O O) O (Dq (Ei i41) (G4 O O) O (Dq (.dptr [I64 y41]) (Gv (f:=I64) (xs:=c.Plugs) (y:=y41) O O O Gn hy41 O) O (Dq (I64 y41) (Ge Gb O O O) O (Dq (BL (decide (y41 < 0))) (Hy O O O) O (Dq (BL (decide (y41 < 0))) (G4 O O) O (Do (.dptr [E1 c.Plugs,I64 c.X,I64 c.Y,I64 c.Z]) [] O .scf G (fun hc=>Ga Rn O O O) O (Do (E1 c.Plugs) [20] O .scf ⟨Ua,G⟩ (fun hc=>Ge J1 O O O) O (Do (Ei i41) [] O .scf G (fun hc=>G4 O O) O (Do (.dptr [I64 y41]) [21,22] O .scf ⟨Ua,Ua,G⟩ (fun hc=>Gv (f:=I64) (xs:=c.Plugs) (y:=y41) O O O Gn hy41 O) O (Do (I64 y41) [23] O .scf ⟨Ua,G⟩ (fun hc=>Ge Gb O O O) O (Do (.dptr (Ez c)) [] O .scf G (fun hc=>Ga Zn O O O) O ?_)))))))))))))
  refine Do (I64 c.Tiers) [25] O .scf ⟨Ua,G⟩ (fun hc=>Ge Gb O O O) O (Do (BL (decide (c.Tiers≤y41))) [24,26] O .scf ⟨Ua,Ua,G⟩ (fun hc=>G13 O O O) O (Dq (BL ((decide (y41 < 0))||(decide (c.Tiers≤y41)))) (Rs O O O O) O (Dnil (hK46 (JCc O h (fun h hb=>?_) (fun h hb=>?_))))))
  ·
   refine Jr fun hK47=>(JLm (BL false) O (G7 (hK47 (Gq (fin1 BL h)))))
  ·
   refine Gm (hK45 (Js fun hK48=>?_))
   obtain⟨v49,hv49,h⟩:=Gd h
   obtain⟨y50,hy50,h⟩:=Gd h
   refine JC_d0 Jb (by kernel_rfl) (Dq (Ei i41) (G4 O O) O (Dq (BL (decide (0 < (i41:Int)))) (G41 O O O) O (Dq (BL (decide (0 < (i41:Int)))) (G4 O O) O (Do (.dptr [E1 c.Plugs,I64 c.X,I64 c.Y,I64 c.Z]) [] O .sct G (fun hc=>Ga Rn O O O) O (Do (E1 c.Plugs) [32] O .sct ⟨Ua,G⟩ (fun hc=>Ge J1 O O O) O (Do (Ei i41) [] O .sct G (fun hc=>G4 O O) O (Do (I64 v49) [34] O .sct ⟨Ua,G⟩ (fun hc=>Ge4 (G2d (Gw hc hv49)) O O O) O (Do (.dptr [I64 y50]) [33,35] O .sct ⟨Ua,Ua,G⟩ (fun hc=>(match Q0 (Gw hc hy50) with | ⟨_,hm_,hy_⟩=>Gv (f:=I64) (xs:=c.Plugs) (y:=y50) O O O Gn hy_ hm_)) O (Do (I64 y50) [36] O .sct ⟨Ua,G⟩ (fun hc=>Ge Gb O O O) O (Do (.dptr [E1 c.Plugs,I64 c.X,I64 c.Y,I64 c.Z]) [] O .sct G (fun hc=>Ga Rn O O O) O (Do (E1 c.Plugs) [38] O .sct ⟨Ua,G⟩ (fun hc=>Ge J1 O O O) O (Do (Ei i41) [] O .sct G (fun hc=>G4 O O) O (Do (.dptr [I64 y41]) [39,40] O .sct ⟨Ua,Ua,G⟩ (fun hc=>Gv (f:=I64) (xs:=c.Plugs) (y:=y41) O O O Gn hy41 O) O ?_)))))))))))))
   refine Do (I64 y41) [41] O .sct ⟨Ua,G⟩ (fun hc=>Ge Gb O O O) O (Do (BL (decide (y41≤y50))) [37,42] O .sct ⟨Ua,Ua,G⟩ (fun hc=>G13 O O O) O (Dq (BL ((decide (0 < (i41:Int)))&&(decide (y41≤y50)))) (J4 O O O O) O (Dnil (hK48 (JCc O h (fun h hb=>?_) (fun h hb=>?_))))))
   ·
    refine Jr fun hK51=>(JLm (BL false) O (G7 (hK51 (Gq (fin1 BL h)))))
   ·
    refine Gm (hK44 (G2 (JLm (Ei i41) O (JLh (I64 ((i41+1:Nat):Int)) (Ht (Hb hk41 hm9) O O O) O (JLm (I64 ((i41+1:Nat):Int)) O (G7 (e41 _ _ (i41+1) () (app1 hn41 h) (by omega) ⟨(.sm O O),G,rfl⟩)))))))
 ·
  have h:=app1 hkx41 (Hk hi41 (H3 hb))
  refine Hi (hK2 (Jr fun hK52=>(JLh (.dptr [I64 c.X,I64 c.Y,I64 c.Z]) (Ga H15 O O O) O (JLh (I64 c.X) (Ge Gb O O O) O ?_))))
  obtain⟨r53,hr53,h⟩:=Gd h
  refine JLh (BL r53) (Gi O (Jc c.X (-500000) 500000 r53 hr53) Zu ⟨O,O,O,O,O,O,G⟩) O (JLm (BL r53) O (JLo (.dptr [I64 c.Y,I64 c.Z]) [] O .sct G (fun hc=>Ga Gec O O O) O (JLo (I64 c.Y) [49] O .sct ⟨Ua,G⟩ (fun hc=>Ge Gb O O O) O ?_)))
  obtain⟨r54,hr54,h⟩:=Gd h
  refine JLo (BL r54) [50] O .sct ⟨Ua,G⟩ (fun hc=>Gi (args:=[I64 c.Y,I64 (-500000),I64 500000]) O (Jc c.Y (-500000) 500000 r54 (Gw hc hr54)) Zu ⟨O,O,O,O,O,O,G⟩) O (JLh (BL (r53&&r54)) (J4 O O O O) O (JLm (BL (r53&&r54)) O (JLo (.dptr [I64 c.Z]) [] O .sct G (fun hc=>Ga Geb O O O) O (JLo (I64 c.Z) [54] O .sct ⟨Ua,G⟩ (fun hc=>Ge Gb O O O) O ?_))))
  obtain⟨r55,hr55,h⟩:=Gd h
  refine JLo (BL r55) [55] O .sct ⟨Ua,G⟩ (fun hc=>Gi (args:=[I64 c.Z,I64 (-500000),I64 500000]) O (Jc c.Z (-500000) 500000 r55 (Gw hc hr55)) Zu ⟨O,O,O,O,O,O,G⟩) O (JLh (BL ((r53&&r54)&&r55)) (J4 O O O O) O (JLm (BL ((r53&&r54)&&r55)) O (G7 (hK52 (Jr fun hK56=>(JLh (.dptr [I64 c.Kilos20,I64 c.Kilos40,I64 c.Lash,E1 c.Plugs,I64 c.X,I64 c.Y,I64 c.Z]) (Ga H18 O O O) O (JLh (I64 c.Kilos20) (Ge Gb O O O) O ?_)))))))
  obtain⟨r57,hr57,h⟩:=Gd h
  refine JLh (BL r57) (Gi O (Jc c.Kilos20 0 500000000 r57 hr57) Zu ⟨O,O,O,O,O,O,G⟩) O (JLm (BL r57) O (JLo (.dptr [I64 c.Kilos40,I64 c.Lash,E1 c.Plugs,I64 c.X,I64 c.Y,I64 c.Z]) [] O .sct G (fun hc=>Ga H17 O O O) O (JLo (I64 c.Kilos40) [62] O .sct ⟨Ua,G⟩ (fun hc=>Ge Gb O O O) O ?_)))
  obtain⟨r58,hr58,h⟩:=Gd h
  refine JLo (BL r58) [63] O .sct ⟨Ua,G⟩ (fun hc=>Gi (args:=[I64 c.Kilos40,I64 0,I64 500000000]) O (Jc c.Kilos40 0 500000000 r58 (Gw hc hr58)) Zu ⟨O,O,O,O,O,O,G⟩) O (JLh (BL (r57&&r58)) (J4 O O O O) O (JLm (BL (r57&&r58)) O (JLo (.dptr [I64 c.Lash,E1 c.Plugs,I64 c.X,I64 c.Y,I64 c.Z]) [] O .sct G (fun hc=>Ga H16 O O O) O (JLo (I64 c.Lash) [67] O .sct ⟨Ua,G⟩ (fun hc=>Ge Gb O O O) O ?_))))
  obtain⟨r59,hr59,h⟩:=Gd h
  refine JLo (BL r59) [68] O .sct ⟨Ua,G⟩ (fun hc=>Gi (args:=[I64 c.Lash,I64 0,I64 1000000000000]) O (Jc c.Lash 0 1000000000000 r59 (Gw hc hr59)) Zu ⟨O,O,O,O,O,O,G⟩) O (JLh (BL ((r57&&r58)&&r59)) (J4 O O O O) O (JLm (BL ((r57&&r58)&&r59)) O (G7 (hK56 (Jr fun hK60=>(JLh (Ed c) (Ga G26 O O O) O (JLh (I64 c.Bay) (Ge Gb O O O) O ?_)))))))
  obtain⟨r61,hr61,h⟩:=Gd h
  refine JLh (BL r61) (Gi O (Jc c.Bay 0 39 r61 hr61) Zu ⟨O,O,O,O,O,O,G⟩) O (JLm (BL r61) O (JLo (.dptr [I64 c.Row,BL c.Deck,I64 c.Tiers,I64 c.Height,I64 c.Kilos20,I64 c.Kilos40,I64 c.Lash,E1 c.Plugs,I64 c.X,I64 c.Y,I64 c.Z]) [] O .sct G (fun hc=>Ga G25 O O O) O (JLo (I64 c.Row) [75] O .sct ⟨Ua,G⟩ (fun hc=>Ge Gb O O O) O ?_)))
  obtain⟨r62,hr62,h⟩:=Gd h
  refine JLo (BL r62) [76] O .sct ⟨Ua,G⟩ (fun hc=>Gi (args:=[I64 c.Row,I64 0,I64 30]) O (Jc c.Row 0 30 r62 (Gw hc hr62)) Zu ⟨O,O,O,O,O,O,G⟩) O (JLh (BL (r61&&r62)) (J4 O O O O) O (JLm (BL (r61&&r62)) O (JLo (.dptr (Ez c)) [] O .sct G (fun hc=>Ga Zn O O O) O (JLo (I64 c.Tiers) [80] O .sct ⟨Ua,G⟩ (fun hc=>Ge Gb O O O) O ?_))))
  obtain⟨r63,hr63,h⟩:=Gd h
  refine JLo (BL r63) [81] O .sct ⟨Ua,G⟩ (fun hc=>Gi (args:=[I64 c.Tiers,I64 1,I64 10]) O (Jc c.Tiers 1 10 r63 (Gw hc hr63)) Zu ⟨O,O,O,O,O,O,G⟩) O (JLh (BL ((r61&&r62)&&r63)) (J4 O O O O) O (JLm (BL ((r61&&r62)&&r63)) O (JLo (.dptr [I64 c.Height,I64 c.Kilos20,I64 c.Kilos40,I64 c.Lash,E1 c.Plugs,I64 c.X,I64 c.Y,I64 c.Z]) [] O .sct G (fun hc=>Ga G45 O O O) O (JLo (I64 c.Height) [85] O .sct ⟨Ua,G⟩ (fun hc=>Ge Gb O O O) O ?_))))
  obtain⟨r64,hr64,h⟩:=Gd h
  refine JLo (BL r64) [86] O .sct ⟨Ua,G⟩ (fun hc=>Gi (args:=[I64 c.Height,I64 0,I64 40000]) O (Jc c.Height 0 40000 r64 (Gw hc hr64)) Zu ⟨O,O,O,O,O,O,G⟩) O (JLh (BL (((r61&&r62)&&r63)&&r64)) (J4 O O O O) O (JLm (BL (((r61&&r62)&&r63)&&r64)) O (JLo (BL ((r57&&r58)&&r59)) [] O .sct G (fun hc=>G4 O O) O (JLh (BL ((((r61&&r62)&&r63)&&r64)&&((r57&&r58)&&r59))) (J4 O O O O) O (JLm (BL ((((r61&&r62)&&r63)&&r64)&&((r57&&r58)&&r59))) O (JLo (BL ((r53&&r54)&&r55)) [] O .sct G (fun hc=>G4 O O) O (JLh (BL (((((r61&&r62)&&r63)&&r64)&&((r57&&r58)&&r59))&&((r53&&r54)&&r55))) (J4 O O O O) O (JLm (BL (((((r61&&r62)&&r63)&&r64)&&((r57&&r58)&&r59))&&((r53&&r54)&&r55))) O (G7 (hK60 (Gq (fin1 BL h))))))))))))

def Qn (rows:List Int) (row:Int):Option Bool:=
 each (fun y17 i17 (s17:Unit) nx17=>
  bif decide (y17=row) then
  (some true)
  else
  (nx17 ()))
 (fun(s17:Unit)=>
  some false) rows 0 ()
theorem Gb8 (rows:List Int) (row:Int) (r:Bool) (h:Qn rows row=some r):Pure Ej 124 [E1 rows,I64 row] (·=BL r):=by
 unfold Qn at h
 refine Gy [.tmp 4] Tryz.func124 O O (Jr fun hK1=>(JLm (BL false) O (G7 (hK1 (Js fun hK2=>Jr fun hK3=>(JLm (I64 0) O (G7 (hK3 (Gp ?_)))))))))
 obtain⟨b17,kx17,hb17,hkx17,h⟩:=Hv h
 refine Hc (fun i17 (s17:Unit)=>each b17 kx17 (List.drop i17 rows) i17 s17=some r) (fun i17 s17=>[(0,E1 rows),(1,I64 row),(5,Ei i17)]) (fun i17 s17=>[]) (fun i17=>rows.length - i17) 0 () h ⟨(.sm O O),G,O⟩ ?_
 clear h
 intro i17 s17 hi17 K17 e17
 refine Js fun hK18=>Jr fun hK19=>(JLm (Ei i17) O (JLm (E1 rows) O (JLl Gn O O O fun hm8=>(JLh (BL (decide ((i17:Int) < (rows.length:Int)))) (Hy O O O) O (G7 (hK19 (Gj O (fun hb=>?_) (fun hb=>?_))))))))
 ·
  have hk17:=J8 hb
  obtain⟨y17,nx17,hy17,hn17,h⟩:=Hj hi17 hk17
  replace h:=R8 hb17 h
  refine Gm (hK18 (Js fun hK20=>Gp (Jr fun hK21=>(JLm (E1 rows) O (JLm (Ei i17) O (JLh (.dptr [I64 y17]) (Gv (f:=I64) (xs:=rows) (y:=y17) O O O Gn hy17 O) O (JLh (I64 y17) (Ge Gb O O O) O (JLm (I64 row) O (JLh (BL (decide (y17=row))) (Ju O O O) O (G7 (hK21 (JCc O h (fun h hb=>?_) (fun h hb=>?_)))))))))))))
  ·
   refine Jr fun hK22=>(JLm (BL true) O (G7 (hK22 (Gq (fin1 BL h)))))
  ·
   refine Gm (hK20 (G2 (JLm (Ei i17) O (JLh (I64 ((i17+1:Nat):Int)) (Ht (Hb hk17 hm8) O O O) O (JLm (I64 ((i17+1:Nat):Int)) O (G7 (e17 _ _ (i17+1) () (app1 hn17 h) (by omega) ⟨(.sm O O),G,rfl⟩)))))))
 ·
  have h:=app1 hkx17 (Hk hi17 (H3 hb))
  refine Hi (hK2 (Jr fun hK23=>(JLm (BL false) O (G7 (hK23 (Gq (fin1 BL h)))))))
end
end Go.Proofs.YthcpolfodgjekaaGreat
