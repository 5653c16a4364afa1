/-
 Models of functions of the program,and that they return what the models say.
-/
import Derived.Test.YtjkmmenifdklmaaGreatSpecR
set_option maxRecDepth 100000
set_option linter.unusedVariables false
set_option linter.unusedSimpArgs false
namespace Go.Proofs.YtjkmmenifdklmaaGreat
open Go.RowKit
noncomputable section
structure Hz where
 s:H4
 boxes:List Gh
 l:List Stowed
 open_:List Int
 x:Stowed
 deriving DecidableEq,Inhabited
def Hz.cs (x:Hz):List AV:=[E4 x.s.Columns,E3 x.s.Covers,G0 x.s.Light.Kilos,G0 x.s.Light.X,G0 x.s.Light.Y,G0 x.s.Light.Z,E6 x.s.Rows,E5 x.s.Frames,E7 x.s.Tanks,G0 x.s.G2.Tolerance,G0 x.s.G2.Trim,G0 x.s.G2.List_,G0 x.s.G2.Stability,E2 x.boxes,E1 x.l,E0 x.open_,G0 x.x.Gh,G0 x.x.Slot.G4,G0 x.x.Slot.Tier,U8 x.x.Slot.Half]
def Hz.av (x:Hz):AV:=.agg x.cs
abbrev Ee (x:Hz):AV:=.dptr (Hz.cs x)
namespace XPF
open XAF
open XLF
open XCF
open XGF
theorem Gbb:Gb5 Eh 117 20=true:=by kernel_rfl
theorem H67:arr1B Eh 118 4=true:=by kernel_rfl
theorem Q5b:arrB Eh 118 37 1=true:=by kernel_rfl
theorem Yn:H8 Eh 109=true:=by kernel_rfl
theorem Q13:H8 Eh 110=true:=by kernel_rfl
theorem J47:H8 Eh 111=true:=by kernel_rfl
theorem H2b:H8 Eh 112=true:=by kernel_rfl
theorem J46:H8 Eh 113=true:=by kernel_rfl
theorem He6:H8 Eh 12=true:=by kernel_rfl
theorem Q08:H8 Eh 133=true:=by kernel_rfl
theorem Q07:H8 Eh 134=true:=by kernel_rfl
theorem Q06:H8 Eh 135=true:=by kernel_rfl
theorem Q04:H8 Eh 137=true:=by kernel_rfl
theorem J43:H8 Eh 138=true:=by kernel_rfl
theorem J99:H8 Eh 14=true:=by kernel_rfl
theorem J40:H8 Eh 159=true:=by kernel_rfl
theorem He3:H8 Eh 16=true:=by kernel_rfl
theorem Q5a:H8 Eh 18=true:=by kernel_rfl
theorem H64:H8 Eh 19=true:=by kernel_rfl
theorem Q59:H8 Eh 20=true:=by kernel_rfl
theorem Q58:H8 Eh 22=true:=by kernel_rfl
theorem Q57:H8 Eh 23=true:=by kernel_rfl
theorem Q56:H8 Eh 24=true:=by kernel_rfl
theorem J98:H8 Eh 28=true:=by kernel_rfl
theorem He1:H8 Eh 30=true:=by kernel_rfl
theorem Q55:H8 Eh 32=true:=by kernel_rfl
theorem Q54:H8 Eh 39=true:=by kernel_rfl
theorem G94:H8 Eh 40=true:=by kernel_rfl
theorem tf_call_5:H8 Eh 5=true:=by kernel_rfl
theorem Q4b:H8 Eh 57=true:=by kernel_rfl
theorem Q4a:H8 Eh 58=true:=by kernel_rfl
theorem Q49:H8 Eh 59=true:=by kernel_rfl
theorem Jdc:H8 Eh 6=true:=by kernel_rfl
theorem Q48:H8 Eh 60=true:=by kernel_rfl
theorem Q47:H8 Eh 61=true:=by kernel_rfl
theorem Q46:H8 Eh 62=true:=by kernel_rfl
theorem He0:H8 Eh 66=true:=by kernel_rfl
theorem J90:H8 Eh 67=true:=by kernel_rfl
theorem tf_call_7:H8 Eh 7=true:=by kernel_rfl
theorem Q42:H8 Eh 73=true:=by kernel_rfl
theorem Q41:H8 Eh 74=true:=by kernel_rfl
theorem tf_call_8:H8 Eh 8=true:=by kernel_rfl
theorem Q3a:H8 Eh 82=true:=by kernel_rfl
theorem Q39:H8 Eh 83=true:=by kernel_rfl
theorem Q38:H8 Eh 84=true:=by kernel_rfl
theorem Q37:H8 Eh 85=true:=by kernel_rfl
theorem J8d:H8 Eh 86=true:=by kernel_rfl
theorem J8c:H8 Eh 88=true:=by kernel_rfl
theorem tf_call_9:H8 Eh 9=true:=by kernel_rfl
theorem Q36:H8 Eh 91=true:=by kernel_rfl
theorem Q35:H8 Eh 92=true:=by kernel_rfl
theorem Q34:H8 Eh 93=true:=by kernel_rfl
theorem tf_elem_4:Yp Eh 4 1 1=true:=by kernel_rfl
theorem Gfc:Q1 Eh 117 0 0=true:=by kernel_rfl
theorem J87:Q1 Eh 117 1 13=true:=by kernel_rfl
theorem G5c:Q1 Eh 117 2 14=true:=by kernel_rfl
theorem J86:Q1 Eh 117 3 15=true:=by kernel_rfl
theorem G35:Q1 Eh 117 4 16=true:=by kernel_rfl
theorem J83:J10 Eh 155 .u64=true:=by kernel_rfl
theorem J82:J10 Eh 3 .i64=true:=by kernel_rfl
theorem tf_int_5:J10 Eh 5 .u8=true:=by kernel_rfl
theorem Jd8:placesOf Eh 117=some [(0,13),(13,1),(14,1),(15,1),(16,4)]:=by kernel_rfl
theorem Jec:placesOf Eh 32=some [(0,1),(1,1),(2,4),(6,1),(7,1),(8,1),(9,4)]:=by kernel_rfl
theorem Jeb:Rt Eh 33=true:=by kernel_rfl
theorem Jf8:Yj Eh 117 20=true:=by kernel_rfl
theorem Jda:Yj Eh 4 1=true:=by kernel_rfl
theorem G69:sliceB Eh 108 4 1=true:=by kernel_rfl
theorem Jf3:(Eh.info? 117).bind (fun i=>i.zero.map Value.cells)=some (List.toArray [.slice none 0 0,.slice none 0 0,.int .i64 0,.int .i64 0,.int .i64 0,.int .i64 0,.slice none 0 0,.slice none 0 0,.slice none 0 0,.int .i64 0,.int .i64 0,.int .i64 0,.int .i64 0,.slice none 0 0,.slice none 0 0,.slice none 0 0,.int .i64 0,.int .i64 0,.int .i64 0,.int .u8 0]):=by kernel_rfl
theorem Jf2:(Eh.info? 118).bind (fun i=>i.zero.map Value.cells)=some (List.toArray [.nilFunc,.nilFunc,.nilFunc,.nilFunc]):=by kernel_rfl
theorem tf_zero_4:(Eh.info? 4).bind (fun i=>i.zero.map Value.cells)=some (List.toArray [.bool false]):=by kernel_rfl
theorem Je7:Yz Eh 117 20=true:=by kernel_rfl
theorem J3c:Yz Eh 32 13=true:=by kernel_rfl
end XPF
open XAF
open XLF
open XCF
open XGF
open XPF

def G00 (s:H4) (boxes:List Gh) (l:List Stowed) (others:List Int):Option Bool:=
 bif (((((decide (20 < (s.Columns.length:Int)))||(decide (20 < (s.Covers.length:Int))))||(decide (40 < (boxes.length:Int))))||(decide (30 < (l.length:Int))))||(decide (12 < (others.length:Int)))) then
 (some false)
 else
 (each (fun y21 i21 (s21:Unit) nx21=>
   bif ((decide (12 < (y21.Plugs.length:Int)))||(decide (12 < y21.Tiers))) then
   (some false)
   else
   (nx21 ()))
  (fun(s21:Unit)=>
   each (fun y44 i44 (s44:Unit) nx44=>
    bif decide (40 < (y44.Rows.length:Int)) then
    (some false)
    else
    (nx44 ()))
   (fun(s44:Unit)=>
    some true) s.Covers 0 ()) s.Columns 0 ())
theorem H76 (s:H4) (boxes:List Gh) (l:List Stowed) (others:List Int) (r:Bool) (h:G00 s boxes l others=some r):Pure Eh 5 [.agg (H4.cs s),E2 boxes,E1 l,E0 others] (·=BL r):=by
 unfold G00 at h
 refine Gy [.tmp 8] Tryz.func5 O O (Jr fun hK1=>(JLh (.ptr 1005 0) (Ji (cs:=(H4.cs s)) 1005 O O O O O) O (Yy (BL false) O (G7 (hK1 (Gz [(1,E2 boxes),(2,E1 l),(3,E0 others),(4,Ea s)] [] 1005 rfl rfl rfl G rfl (by repeat' (first | exact .ptr | constructor)) (Js fun hK2=>?_)))))))
 refine Jr fun hK3=>(JLh (Ea s) (Ga Hd O O O) O (JLh (E4 s.Columns) (Gg Hm O O O) O (JLl H5 O O O fun hm15=>(JLh (BL (decide (20 < (s.Columns.length:Int)))) (G2c O O O) O (Yy (BL (decide (20 < (s.Columns.length:Int)))) O (JLo (.dptr [E3 s.Covers,G0 s.Light.Kilos,G0 s.Light.X,G0 s.Light.Y,G0 s.Light.Z,E6 s.Rows,E5 s.Frames,E7 s.Tanks,G0 s.G2.Tolerance,G0 s.G2.Trim,G0 s.G2.List_,G0 s.G2.Stability]) [] O .scf G (fun hc=>Ga Je O O O) O (JLo (E3 s.Covers) [18] O .scf ⟨Ua,G⟩ (fun hc=>Gg Jv O O O) O (JLo (Eg s.Covers.length) [19] O .scf ⟨Ua,G⟩ (fun hc=>Qi (f:=Gc.av) (xs:=s.Covers) Hh O O) O (JLo (BL (decide (20 < (s.Covers.length:Int)))) [20] O .scf ⟨Ua,G⟩ (fun hc=>G2c O O O) O (JLh (BL ((decide (20 < (s.Columns.length:Int)))||(decide (20 < (s.Covers.length:Int))))) (Yi O O O O) O (Yy (BL ((decide (20 < (s.Columns.length:Int)))||(decide (20 < (s.Covers.length:Int))))) O (JLo (E2 boxes) [] O .scf G (fun hc=>G5 O O) O (JLo (Eg boxes.length) [24] O .scf ⟨Ua,G⟩ (fun hc=>Qi (f:=Gh.av) (xs:=boxes) Jm O O) O ?_)))))))))))))
 refine JLo (BL (decide (40 < (boxes.length:Int)))) [25] O .scf ⟨Ua,G⟩ (fun hc=>G2c O O O) O (JLh (BL (((decide (20 < (s.Columns.length:Int)))||(decide (20 < (s.Covers.length:Int))))||(decide (40 < (boxes.length:Int))))) (Yi O O O O) O (Yy (BL (((decide (20 < (s.Columns.length:Int)))||(decide (20 < (s.Covers.length:Int))))||(decide (40 < (boxes.length:Int))))) O (JLo (E1 l) [] O .scf G (fun hc=>G5 O O) O (JLo (Eg l.length) [29] O .scf ⟨Ua,G⟩ (fun hc=>Qi (f:=Stowed.av) (xs:=l) H0 O O) O (JLo (BL (decide (30 < (l.length:Int)))) [30] O .scf ⟨Ua,G⟩ (fun hc=>G2c O O O) O (JLh (BL ((((decide (20 < (s.Columns.length:Int)))||(decide (20 < (s.Covers.length:Int))))||(decide (40 < (boxes.length:Int))))||(decide (30 < (l.length:Int))))) (Yi O O O O) O (Yy (BL ((((decide (20 < (s.Columns.length:Int)))||(decide (20 < (s.Covers.length:Int))))||(decide (40 < (boxes.length:Int))))||(decide (30 < (l.length:Int))))) O (JLo (E0 others) [] O .scf G (fun hc=>G5 O O) O (JLo (Eg others.length) [34] O .scf ⟨Ua,G⟩ (fun hc=>Qi (f:=G0) (xs:=others) Gu O O) O (JLo (BL (decide (12 < (others.length:Int)))) [35] O .scf ⟨Ua,G⟩ (fun hc=>G2c O O O) O (JLh (BL (((((decide (20 < (s.Columns.length:Int)))||(decide (20 < (s.Covers.length:Int))))||(decide (40 < (boxes.length:Int))))||(decide (30 < (l.length:Int))))||(decide (12 < (others.length:Int))))) (Yi O O O O) O (G7 (hK3 ?_)))))))))))))
 refine JCc O h (fun h hb=>?_) (fun h hb=>?_)
 ·
  refine Jr fun hK4=>(Yy (BL false) O (G7 (hK4 (Gr (fin1 BL h)))))
 ·
  refine Gp (hK2 (Js fun hK5=>Jr fun hK6=>(JLh (Ea s) (Ga Hd O O O) O (JLh (E4 s.Columns) (Gg Hm O O O) O (JLl H5 O O O fun hm40=>(Yy (G0 0) O (G7 (hK6 (Gs ?_)))))))))
  obtain⟨b21,kx21,hb21,hkx21,h⟩:=J5 h
  refine Hc (fun i21 (s21:Unit)=>each b21 kx21 (List.drop i21 s.Columns) i21 s21=some r) (fun i21 s21=>[(4,Ea s),(39,E4 s.Columns),(40,Eg s.Columns.length),(41,Eg i21)]) (fun i21 s21=>[]) (fun i21=>s.Columns.length - i21) 0 () h ⟨(by repeat' constructor),G,rfl⟩ ?_
  clear h
  intro i21 s21 hi21 K21 e21
  refine Jr fun hK22=>(JLh (BL (decide ((i21:Int) < (s.Columns.length:Int)))) (J4 O O O) O (G7 (hK22 (Js fun hK23=>Gk O (fun hb=>?_) (fun hb=>?_)))))
  ·
   have hk21:=Jj hb
   obtain⟨y21,nx21,hy21,hn21,h⟩:=Hq hi21 hk21
   replace h:=Z1 hb21 h
   refine Gp (hK23 (Js fun hK24=>Gs (Jr fun hK25=>(JLh (Ec y21) (Gv (f:=G4.av) (xs:=s.Columns) (y:=y21) O O O H5 hy21 O) O (JLh (.agg (G4.cs y21)) (Gi Rf O O O) O (JLh (.ptr 1006 0) (Qf 1006 12 G59 O O) O (Jk (u:=.junk) (Jb (u:=.agg (G4.cs y21)) (ds:=(G4.cs y21)) Gb8 O O O O O O O O) (G7 (hK25 ?_)))))))))
   refine Gz [(4,Ea s),(10,Ec y21),(39,E4 s.Columns),(40,Eg s.Columns.length),(41,Eg i21)] [] 1006 rfl rfl rfl G rfl (by repeat' (first | exact .ptr | constructor)) ?_
   refine Jr fun hK26=>(JLh (.dptr ((G4.cs y21).drop 8)) (Ga Qw O O O) O (JLh (E0 y21.Plugs) (Gg Ho O O O) O (JLl Gu O O O fun hm47=>(JLh (BL (decide (12 < (y21.Plugs.length:Int)))) (G2c O O O) O (Yy (BL (decide (12 < (y21.Plugs.length:Int)))) O (JLo (.dptr ((G4.cs y21).drop 3)) [] O .scf G (fun hc=>Ga Zs O O O) O (JLo (G0 y21.Tiers) [50] O .scf ⟨Ua,G⟩ (fun hc=>Gg Gd O O O) O (JLo (BL (decide (12 < y21.Tiers))) [51] O .scf ⟨Ua,G⟩ (fun hc=>G2c O O O) O (JLh (BL ((decide (12 < (y21.Plugs.length:Int)))||(decide (12 < y21.Tiers)))) (Yi O O O O) O (G7 (hK26 (JCc O h (fun h hb=>?_) (fun h hb=>?_)))))))))))))
   ·
    refine Jr fun hK27=>(Yy (BL false) O (G7 (hK27 (Gr (fin1 BL h)))))
   ·
    refine Gp (hK24 (G3 (JLh (G0 ((i21+1:Nat):Int)) (Hs (He hk21 hm40) O O O) O (Yy (G0 ((i21+1:Nat):Int)) O (G7 (e21 _ _ (i21+1) () (app1 hn21 h) (by omega) ⟨(by repeat' constructor),G,rfl⟩))))))
  ·
   have h:=app1 hkx21 (Hr hi21 (Ha hb))
   refine Hi (hK5 (Js fun hK28=>Jr fun hK29=>(JLh (.dptr [E3 s.Covers,G0 s.Light.Kilos,G0 s.Light.X,G0 s.Light.Y,G0 s.Light.Z,E6 s.Rows,E5 s.Frames,E7 s.Tanks,G0 s.G2.Tolerance,G0 s.G2.Trim,G0 s.G2.List_,G0 s.G2.Stability]) (Ga Je O O O) O (JLh (E3 s.Covers) (Gg Jv O O O) O (JLl Hh O O O fun hm57=>(Yy (G0 0) O (G7 (hK29 (Gs ?_)))))))))
   obtain⟨b44,kx44,hb44,hkx44,h⟩:=J5 h
   refine Hc (fun i44 (s44:Unit)=>each b44 kx44 (List.drop i44 s.Covers) i44 s44=some r) (fun i44 s44=>[(56,E3 s.Covers),(57,Eg s.Covers.length),(58,Eg i44)]) (fun i44 s44=>[]) (fun i44=>s.Covers.length - i44) 0 () h ⟨⟨.same O,.same O,.same O,G⟩,G,O⟩ ?_
   clear h
   intro i44 s44 hi44 K44 e44
   refine Jr fun hK45=>(JLh (BL (decide ((i44:Int) < (s.Covers.length:Int)))) (J4 O O O) O (G7 (hK45 (Js fun hK46=>Gk O (fun hb=>?_) (fun hb=>?_)))))
   ·
    have hk44:=Jj hb
    obtain⟨y44,nx44,hy44,hn44,h⟩:=Hq hi44 hk44
    replace h:=Z1 hb44 h
    refine Gp (hK46 (Js fun hK47=>Gs (Jr fun hK48=>(JLh (.dptr [G0 y44.Bay,E0 y44.Rows]) (Gv (f:=Gc.av) (xs:=s.Covers) (y:=y44) O O O Hh hy44 O) O (JLh (.agg [G0 y44.Bay,E0 y44.Rows]) (Gi Rs O O O) O (JLh (.ptr 1007 0) (Qf 1007 2 G3c O O) O (Jk (u:=.junk) (Jb (u:=.agg [G0 y44.Bay,E0 y44.Rows]) (ds:=[G0 y44.Bay,E0 y44.Rows]) G91 O O O O O O O O) (G7 (hK48 (Gz [(12,.dptr [G0 y44.Bay,E0 y44.Rows]),(56,E3 s.Covers),(57,Eg s.Covers.length),(58,Eg i44)] [] 1007 rfl rfl rfl G rfl (by repeat' (first | exact .ptr | constructor)) ?_))))))))))
    refine Jr fun hK49=>(JLh (.dptr [E0 y44.Rows]) (Ga Jy O O O) O (JLh (E0 y44.Rows) (Gg Ho O O O) O (JLl Gu O O O fun hm64=>(JLh (BL (decide (40 < (y44.Rows.length:Int)))) (G2c O O O) O (G7 (hK49 (JCc O h (fun h hb=>?_) (fun h hb=>?_))))))))
    ·
     refine Jr fun hK50=>(Yy (BL false) O (G7 (hK50 (Gr (fin1 BL h)))))
    ·
     refine Gp (hK47 (G3 (JLh (G0 ((i44+1:Nat):Int)) (Hs (He hk44 hm57) O O O) O (Yy (G0 ((i44+1:Nat):Int)) O (G7 (e44 _ _ (i44+1) () (app1 hn44 h) (by omega) ⟨⟨.same rfl,.same rfl,.same rfl,G⟩,G,rfl⟩))))))
   ·
    have h:=app1 hkx44 (Hr hi44 (Ha hb))
    refine Hi (hK28 (Jr fun hK51=>(Yy (BL true) O (G7 (hK51 (Gr (fin1 BL h)))))))

def G2f :Option H4:=
 some (H4.mk ([(G4.mk 0 0 false 2 0 0 0 0 [] 0 0 0),(G4.mk 0 1 false 2 0 0 0 0 [] 0 0 0),(G4.mk 0 0 true 3 0 0 0 0 [] 0 0 0),(G4.mk 0 1 true 3 0 0 0 0 [] 0 0 0),(G4.mk 1 1 true 4 0 0 0 0 [] 0 0 0)]) ([(Gc.mk 0 [0,1])]) (Light.mk 0 0 0 0) [] [] [] (G2.mk 0 0 0 0))
theorem H0e  (r:H4) (h:G2f =some r):Pure Eh 39 [] (·=.agg (H4.cs r)):=by
 unfold G2f at h
 refine Gy [.cell 0 32] Tryz.func39 O O (Jr fun hK1=>(JLh (.ptr 1047 0) (G1c 1047 [E4 ([]:List G4),E3 ([]:List Gc),G0 0,G0 0,G0 0,G0 0,E6 ([]:List Row),E5 ([]:List Frame),E7 ([]:List Gj),G0 0,G0 0,G0 0,G0 0] [.slice none 0 0,.slice none 0 0,.int .i64 0,.int .i64 0,.int .i64 0,.int .i64 0,.slice none 0 0,.slice none 0 0,.slice none 0 0,.int .i64 0,.int .i64 0,.int .i64 0,.int .i64 0] Hd6 ⟨.inr ⟨_,O,O⟩,.inr ⟨_,O,O⟩,.inl O,.inl O,.inl O,.inl O,.inr ⟨_,O,O⟩,.inr ⟨_,O,O⟩,.inr ⟨_,O,O⟩,.inl O,.inl O,.inl O,.inl O,G⟩ O O) O (G7 (hK1 ?_))))
 refine Jr fun hK2=>(JLh (.agg [G0 0,G0 0,BL false,G0 2,G0 0,G0 0,G0 0,G0 0,E0 ([]:List Int),G0 0,G0 0,G0 0]) (Jq (cs:=[G0 0,G0 0,BL false,G0 2,G0 0,G0 0,G0 0,G0 0,E0 ([]:List Int),G0 0,G0 0,G0 0]) [(0,1),(1,1),(2,1),(3,1),(4,1),(5,1),(6,1),(7,1),(8,1),(9,1),(10,1),(11,1)] [G0 0,G0 0,BL false,G0 0,G0 0,G0 0,G0 0,G0 0,E0 ([]:List Int),G0 0,G0 0,G0 0] [.int .i64 0,.int .i64 0,.bool false,.int .i64 0,.int .i64 0,.int .i64 0,.int .i64 0,.int .i64 0,.slice none 0 0,.int .i64 0,.int .i64 0,.int .i64 0] G6a G5b ⟨.inl O,.inl O,.inl O,.inl O,.inl O,.inl O,.inl O,.inl O,.inr ⟨_,O,O⟩,.inl O,.inl O,.inl O,G⟩ O O) O (JLh (.agg [G0 0,G0 1,BL false,G0 2,G0 0,G0 0,G0 0,G0 0,E0 ([]:List Int),G0 0,G0 0,G0 0]) (Jq (cs:=[G0 0,G0 1,BL false,G0 2,G0 0,G0 0,G0 0,G0 0,E0 ([]:List Int),G0 0,G0 0,G0 0]) [(0,1),(1,1),(2,1),(3,1),(4,1),(5,1),(6,1),(7,1),(8,1),(9,1),(10,1),(11,1)] [G0 0,G0 0,BL false,G0 0,G0 0,G0 0,G0 0,G0 0,E0 ([]:List Int),G0 0,G0 0,G0 0] [.int .i64 0,.int .i64 0,.bool false,.int .i64 0,.int .i64 0,.int .i64 0,.int .i64 0,.int .i64 0,.slice none 0 0,.int .i64 0,.int .i64 0,.int .i64 0] G6a G5b ⟨.inl O,.inl O,.inl O,.inl O,.inl O,.inl O,.inl O,.inl O,.inr ⟨_,O,O⟩,.inl O,.inl O,.inl O,G⟩ O O) O (JLh (.agg [G0 0,G0 0,BL true,G0 3,G0 0,G0 0,G0 0,G0 0,E0 ([]:List Int),G0 0,G0 0,G0 0]) (Jq (cs:=[G0 0,G0 0,BL true,G0 3,G0 0,G0 0,G0 0,G0 0,E0 ([]:List Int),G0 0,G0 0,G0 0]) [(0,1),(1,1),(2,1),(3,1),(4,1),(5,1),(6,1),(7,1),(8,1),(9,1),(10,1),(11,1)] [G0 0,G0 0,BL false,G0 0,G0 0,G0 0,G0 0,G0 0,E0 ([]:List Int),G0 0,G0 0,G0 0] [.int .i64 0,.int .i64 0,.bool false,.int .i64 0,.int .i64 0,.int .i64 0,.int .i64 0,.int .i64 0,.slice none 0 0,.int .i64 0,.int .i64 0,.int .i64 0] G6a G5b ⟨.inl O,.inl O,.inl O,.inl O,.inl O,.inl O,.inl O,.inl O,.inr ⟨_,O,O⟩,.inl O,.inl O,.inl O,G⟩ O O) O (JLh (.agg [G0 0,G0 1,BL true,G0 3,G0 0,G0 0,G0 0,G0 0,E0 ([]:List Int),G0 0,G0 0,G0 0]) (Jq (cs:=[G0 0,G0 1,BL true,G0 3,G0 0,G0 0,G0 0,G0 0,E0 ([]:List Int),G0 0,G0 0,G0 0]) [(0,1),(1,1),(2,1),(3,1),(4,1),(5,1),(6,1),(7,1),(8,1),(9,1),(10,1),(11,1)] [G0 0,G0 0,BL false,G0 0,G0 0,G0 0,G0 0,G0 0,E0 ([]:List Int),G0 0,G0 0,G0 0] [.int .i64 0,.int .i64 0,.bool false,.int .i64 0,.int .i64 0,.int .i64 0,.int .i64 0,.int .i64 0,.slice none 0 0,.int .i64 0,.int .i64 0,.int .i64 0] G6a G5b ⟨.inl O,.inl O,.inl O,.inl O,.inl O,.inl O,.inl O,.inl O,.inr ⟨_,O,O⟩,.inl O,.inl O,.inl O,G⟩ O O) O (JLh (.agg [G0 1,G0 1,BL true,G0 4,G0 0,G0 0,G0 0,G0 0,E0 ([]:List Int),G0 0,G0 0,G0 0]) (Jq (cs:=[G0 1,G0 1,BL true,G0 4,G0 0,G0 0,G0 0,G0 0,E0 ([]:List Int),G0 0,G0 0,G0 0]) [(0,1),(1,1),(2,1),(3,1),(4,1),(5,1),(6,1),(7,1),(8,1),(9,1),(10,1),(11,1)] [G0 0,G0 0,BL false,G0 0,G0 0,G0 0,G0 0,G0 0,E0 ([]:List Int),G0 0,G0 0,G0 0] [.int .i64 0,.int .i64 0,.bool false,.int .i64 0,.int .i64 0,.int .i64 0,.int .i64 0,.int .i64 0,.slice none 0 0,.int .i64 0,.int .i64 0,.int .i64 0] G6a G5b ⟨.inl O,.inl O,.inl O,.inl O,.inl O,.inl O,.inl O,.inl O,.inr ⟨_,O,O⟩,.inl O,.inl O,.inl O,G⟩ O O) O (JLh (E4 ([(G4.mk 0 0 false 2 0 0 0 0 [] 0 0 0),(G4.mk 0 1 false 2 0 0 0 0 [] 0 0 0),(G4.mk 0 0 true 3 0 0 0 0 [] 0 0 0),(G4.mk 0 1 true 3 0 0 0 0 [] 0 0 0),(G4.mk 1 1 true 4 0 0 0 0 [] 0 0 0)])) (Hn (xs:=[.agg [G0 0,G0 0,BL false,G0 2,G0 0,G0 0,G0 0,G0 0,E0 ([]:List Int),G0 0,G0 0,G0 0],.agg [G0 0,G0 1,BL false,G0 2,G0 0,G0 0,G0 0,G0 0,E0 ([]:List Int),G0 0,G0 0,G0 0],.agg [G0 0,G0 0,BL true,G0 3,G0 0,G0 0,G0 0,G0 0,E0 ([]:List Int),G0 0,G0 0,G0 0],.agg [G0 0,G0 1,BL true,G0 3,G0 0,G0 0,G0 0,G0 0,E0 ([]:List Int),G0 0,G0 0,G0 0],.agg [G0 1,G0 1,BL true,G0 4,G0 0,G0 0,G0 0,G0 0,E0 ([]:List Int),G0 0,G0 0,G0 0]]) O ⟨O,O,O,O,O,O,O,O,O,O,G⟩ H5 G59 O O O O) O (JLh (E0 [0,1]) (Hn (xs:=[G0 0,G0 1]) O ⟨O,O,O,O,G⟩ Gu Y2 O O O O) O (JLh (.agg [G0 0,E0 [0,1]]) (Jq (cs:=[G0 0,E0 [0,1]]) [(0,1),(1,1)] [G0 0,E0 ([]:List Int)] [.int .i64 0,.slice none 0 0] Hff H5e ⟨.inl O,.inr ⟨_,O,O⟩,G⟩ O O) O (JLh (E3 ([(Gc.mk 0 [0,1])])) (Hn (xs:=[.agg [G0 0,E0 [0,1]]]) O ⟨O,O,G⟩ Hh G3c O O O O) O (JLh (.agg [E4 ([(G4.mk 0 0 false 2 0 0 0 0 [] 0 0 0),(G4.mk 0 1 false 2 0 0 0 0 [] 0 0 0),(G4.mk 0 0 true 3 0 0 0 0 [] 0 0 0),(G4.mk 0 1 true 3 0 0 0 0 [] 0 0 0),(G4.mk 1 1 true 4 0 0 0 0 [] 0 0 0)]),E3 ([(Gc.mk 0 [0,1])]),G0 0,G0 0,G0 0,G0 0,E6 ([]:List Row),E5 ([]:List Frame),E7 ([]:List Gj),G0 0,G0 0,G0 0,G0 0]) (Jq (cs:=[E4 ([(G4.mk 0 0 false 2 0 0 0 0 [] 0 0 0),(G4.mk 0 1 false 2 0 0 0 0 [] 0 0 0),(G4.mk 0 0 true 3 0 0 0 0 [] 0 0 0),(G4.mk 0 1 true 3 0 0 0 0 [] 0 0 0),(G4.mk 1 1 true 4 0 0 0 0 [] 0 0 0)]),E3 ([(Gc.mk 0 [0,1])]),G0 0,G0 0,G0 0,G0 0,E6 ([]:List Row),E5 ([]:List Frame),E7 ([]:List Gj),G0 0,G0 0,G0 0,G0 0]) [(0,1),(1,1),(2,4),(6,1),(7,1),(8,1),(9,4)] [E4 ([]:List G4),E3 ([]:List Gc),G0 0,G0 0,G0 0,G0 0,E6 ([]:List Row),E5 ([]:List Frame),E7 ([]:List Gj),G0 0,G0 0,G0 0,G0 0] [.slice none 0 0,.slice none 0 0,.int .i64 0,.int .i64 0,.int .i64 0,.int .i64 0,.slice none 0 0,.slice none 0 0,.slice none 0 0,.int .i64 0,.int .i64 0,.int .i64 0,.int .i64 0] Jec Hd6 ⟨.inr ⟨_,O,O⟩,.inr ⟨_,O,O⟩,.inl O,.inl O,.inl O,.inl O,.inr ⟨_,O,O⟩,.inr ⟨_,O,O⟩,.inr ⟨_,O,O⟩,.inl O,.inl O,.inl O,.inl O,G⟩ O O) O (Jk (u:=.junk) (Jb (u:=.agg [E4 ([(G4.mk 0 0 false 2 0 0 0 0 [] 0 0 0),(G4.mk 0 1 false 2 0 0 0 0 [] 0 0 0),(G4.mk 0 0 true 3 0 0 0 0 [] 0 0 0),(G4.mk 0 1 true 3 0 0 0 0 [] 0 0 0),(G4.mk 1 1 true 4 0 0 0 0 [] 0 0 0)]),E3 ([(Gc.mk 0 [0,1])]),G0 0,G0 0,G0 0,G0 0,E6 ([]:List Row),E5 ([]:List Frame),E7 ([]:List Gj),G0 0,G0 0,G0 0,G0 0]) (ds:=[E4 ([(G4.mk 0 0 false 2 0 0 0 0 [] 0 0 0),(G4.mk 0 1 false 2 0 0 0 0 [] 0 0 0),(G4.mk 0 0 true 3 0 0 0 0 [] 0 0 0),(G4.mk 0 1 true 3 0 0 0 0 [] 0 0 0),(G4.mk 1 1 true 4 0 0 0 0 [] 0 0 0)]),E3 ([(Gc.mk 0 [0,1])]),G0 0,G0 0,G0 0,G0 0,E6 ([]:List Row),E5 ([]:List Frame),E7 ([]:List Gj),G0 0,G0 0,G0 0,G0 0]) H60 O O O O O O O O) (G7 (hK2 ?_)))))))))))))
 refine Gr (⟨[.agg [E4 ([(G4.mk 0 0 false 2 0 0 0 0 [] 0 0 0),(G4.mk 0 1 false 2 0 0 0 0 [] 0 0 0),(G4.mk 0 0 true 3 0 0 0 0 [] 0 0 0),(G4.mk 0 1 true 3 0 0 0 0 [] 0 0 0),(G4.mk 1 1 true 4 0 0 0 0 [] 0 0 0)]),E3 ([(Gc.mk 0 [0,1])]),G0 0,G0 0,G0 0,G0 0,E6 ([]:List Row),E5 ([]:List Frame),E7 ([]:List Gj),G0 0,G0 0,G0 0,G0 0]],[],G,O,⟨⟨_,⟨_,_,_,_,O,O,O,.inl ⟨Hu,O⟩⟩,.conv (.same O)⟩,G⟩,O,congrArg (fun r:H4=>(.agg (H4.cs r):AV)) (Option.some.inj h)⟩)

def Qs (box:Int) (column:Int) (tier:Int) (half:Int):Option Stowed:=
 some (Stowed.mk box (Slot.mk column tier half))
theorem Rb (box:Int) (column:Int) (tier:Int) (half:Int) (r:Stowed) (h:Qs box column tier half=some r):Pure Eh 40 [G0 box,G0 column,G0 tier,U8 half] (·=.agg (Stowed.cs r)):=by
 unfold Qs at h
 refine Gy [.cell 8 63] Tryz.func40 O O (Jr fun hK1=>(JLh (.ptr 1048 0) (G1c 1048 [G0 0,G0 0,G0 0,U8 0] [.int .i64 0,.int .i64 0,.int .i64 0,.int .u8 0] H5f ⟨.inl O,.inl O,.inl O,.inl O,G⟩ O O) O (G7 (hK1 ?_))))
 refine Jr fun hK2=>(Yy (G0 box) O (Yy (G0 column) O (Yy (G0 tier) O (Yy (U8 half) O (JLh (.agg [G0 column,G0 tier,U8 half]) (Jq (cs:=[G0 column,G0 tier,U8 half]) [(0,1),(1,1),(2,1)] [G0 0,G0 0,U8 0] [.int .i64 0,.int .i64 0,.int .u8 0] J01 J81 ⟨.inl O,.inl O,.inl O,G⟩ O O) O (JLh (.agg [G0 box,G0 column,G0 tier,U8 half]) (Jq (cs:=[G0 box,G0 column,G0 tier,U8 half]) [(0,1),(1,3)] [G0 0,G0 0,G0 0,U8 0] [.int .i64 0,.int .i64 0,.int .i64 0,.int .u8 0] J00 H5f ⟨.inl O,.inl O,.inl O,.inl O,G⟩ O O) O (Jk (u:=.junk) (Jb (u:=.agg [G0 box,G0 column,G0 tier,U8 half]) (ds:=[G0 box,G0 column,G0 tier,U8 half]) G92 O O O O O O O O) (G7 (hK2 (Gr ?_))))))))))
 exact⟨[.agg [G0 box,G0 column,G0 tier,U8 half]],[],G,O,⟨⟨_,⟨_,_,_,_,O,O,O,.inl ⟨G19,O⟩⟩,.conv (.same O)⟩,G⟩,O,congrArg (fun r:Stowed=>(.agg (Stowed.cs r):AV)) (Option.some.inj h)⟩

def G8f (x:Int):Option Bool:=
 some (decide (x≠x))
theorem H34 (x:Int) (r:Bool) (h:G8f x=some r):Pure Eh 159 [G0 x] (·=BL r):=by
 unfold G8f at h
 refine Gy [.tmp 2] Tryz.func159 O O (Jr fun hK1=>(Yy (BL false) O (G7 (hK1 (Jr fun hK2=>(Yy (G0 x) O (Yy (G0 x) O (JLh (BL (decide (x≠x))) (G3d O O O) O (Yy (BL (decide (x≠x))) O (G7 (hK2 (Gr (fin1 BL h)))))))))))))

def H18 (x:Int) (y:Int):Option Bool:=
 bnd (G8f x) fun r3=>
 bnd (bif r3 then G8f y else some default) fun r4=>
 some ((r3&&(!r4))||(decide (x < y)))
theorem J38 (x:Int) (y:Int) (r:Bool) (h:H18 x y=some r):Pure Eh 137 [G0 x,G0 y] (·=BL r):=by
 unfold H18 at h
 refine Gy [.tmp 4] Tryz.func137 O O (Jr fun hK1=>(Yy (BL false) O (G7 (hK1 (Jr fun hK2=>(Yy (G0 x) O ?_))))))
 obtain⟨r3,hr3,h⟩:=Ge h
 refine JLh (BL r3) (Gn O (H34 x r3 hr3) J40 ⟨O,O,G⟩) O (Yy (BL r3) O (JLo (G0 y) [] O .sct G (fun hc=>G5 O O) O ?_))
 obtain⟨r4,hr4,h⟩:=Ge h
 refine JLo (BL r4) [8] O .sct ⟨Ua,G⟩ (fun hc=>Gn (args:=[G0 y]) O (H34 y r4 (Gx hc hr4)) J40 ⟨O,O,G⟩) O (JLo (BL (!r4)) [9] O .sct ⟨Ua,G⟩ (fun hc=>R5 (b:=r4) O O) O (JLh (BL (r3&&(!r4))) (Hx O O O O) O (Yy (BL (r3&&(!r4))) O (JLo (G0 x) [] O .scf G (fun hc=>G5 O O) O (JLo (G0 y) [] O .scf G (fun hc=>G5 O O) O (JLo (BL (decide (x < y))) [13,14] O .scf ⟨Ua,Ua,G⟩ (fun hc=>J4 O O O) O (JLh (BL ((r3&&(!r4))||(decide (x < y)))) (Yi O O O O) O (Yy (BL ((r3&&(!r4))||(decide (x < y)))) O (G7 (hK2 (Gr (fin1 BL h))))))))))))

def G43 (x:Int):Option Bool:=
 some (decide (x≠x))
theorem Gd3 (x:Int) (r:Bool) (h:G43 x=some r):Pure Eh 138 [G0 x] (·=BL r):=by
 unfold G43 at h
 refine Gy [.tmp 2] Tryz.func138 O O (Jr fun hK1=>(Yy (BL false) O (G7 (hK1 (Jr fun hK2=>(Yy (G0 x) O (Yy (G0 x) O (JLh (BL (decide (x≠x))) (G3d O O O) O (Yy (BL (decide (x≠x))) O (G7 (hK2 (Gr (fin1 BL h)))))))))))))

def G22 (F:Nat) (x:List Int) (target:Int):Option (Int×Bool):=
 loop (fun nx16 (s16:Int×Int)=>
  bif decide (s16.1 < s16.2) then
  (G1f (s16.1+s16.2) fun v20=>
   G1f (shrN .u64 (IntKind.u64.wrap v20) 1) fun v21=>
   Qm x v21 fun y23=>
   bnd (H18 y23 target) fun r25=>
   bif r25 then
   (G1f (v21+1) fun v26=>
    nx16 (v26,s16.2))
   else
   (nx16 (s16.1,v21)))
  else
  (bnd (bif decide (s16.1 < (x.length:Int)) then Qm x s16.1 some else some default) fun y28=>
   bnd (bif ((decide (s16.1 < (x.length:Int)))&&!(decide (y28=target))) then Qm x s16.1 some else some default) fun y29=>
   bnd (bif ((decide (s16.1 < (x.length:Int)))&&!(decide (y28=target))) then G43 y29 else some default) fun r30=>
   bnd (bif (((decide (s16.1 < (x.length:Int)))&&!(decide (y28=target)))&&r30) then G43 target else some default) fun r31=>
   some (s16.1,((decide (s16.1 < (x.length:Int)))&&((decide (y28=target))||(r30&&r31)))))) F (0,(x.length:Int))
theorem Gf7 (F:Nat) (x:List Int) (target:Int) (r:Int×Bool) (h:G22 F x target=some r):Pure Eh 91 [E0 x,G0 target] (·=.tup [G0 r.1,BL r.2]):=by
 unfold G22 at h
 refine Gy [.tmp 4,.tmp 5] Tryz.func91 O O (Jr fun hK1=>(Yy (G0 0) O (Yy (BL false) O (G7 (hK1 (Jr fun hK2=>(Yy (E0 x) O (JLl Gu O O O fun hm11=>(Yy (Eg x.length) O (G7 (hK2 (Jr fun hK3=>(Yy (Eg x.length) O (Yy (G0 0) O (Yy (Eg x.length) O (G7 (hK3 (Js fun hK4=>Gs ?_))))))))))))))))))
 obtain⟨b16,hb16,h⟩:=loop_in h
 refine Hc (fun i16 (s16:Int×Int)=>loop b16 i16 s16=some r) (fun i16 s16=>[(0,E0 x),(1,G0 target),(6,Eg x.length),(7,G0 s16.1),(8,G0 s16.2)]) (fun i16 s16=>[]) (fun i16=>i16) F (0,(x.length:Int)) h ⟨(by repeat' constructor),G,rfl⟩ ?_
 clear h
 intro i16 s16 hi16 K16 e16
 obtain⟨m16,nx16,hm_16,hn16,h⟩:=Jac hi16
 replace h:=app2 hb16 h
 refine Js fun hK17=>Jr fun hK18=>(Yy (G0 s16.1) O (Yy (G0 s16.2) O (JLh (BL (decide (s16.1 < s16.2))) (J4 O O O) O (G7 (hK18 (JCc O h (fun h hb=>?_) (fun h hb=>?_)))))))
 ·
  refine Gp (hK17 (Gs (Jr fun hK19=>(Yy (G0 s16.1) O (Yy (G0 s16.2) O ?_)))))
  obtain⟨v20,hv20,h⟩:=Qq h
  refine JLh (G0 v20) (Hs hv20 O O O) O (JLh (.sc (.int .u64 (IntKind.u64.wrap v20))) (Q66 J83 J82 O O O) O (JLh (.sc (.int .u64 (shrN .u64 (IntKind.u64.wrap v20) 1))) (A_shrM (s:=1) O O O O) O ?_))
  obtain⟨v21,hv21,h⟩:=Qq h
  refine JLh (G0 v21) (Q66 J82 J83 hv21 O O) O (Yy (G0 v21) O (G7 (hK19 (Jr fun hK22=>(Yy (E0 x) O (Yy (G0 v21) O ?_))))))
  obtain⟨m24,y23,hm24,hy23,h⟩:=Qx h
  refine JLh (.dptr [G0 y23]) (Gv (f:=G0) (xs:=x) (y:=y23) O O O Gu hy23 hm24) O (JLh (G0 y23) (Gg Gd O O O) O (Yy (G0 target) O ?_))
  obtain⟨r25,hr25,h⟩:=Ge h
  refine JLh (BL r25) (Gn O (J38 y23 target r25 hr25) Q04 ⟨O,O,O,O,G⟩) O (G7 (hK22 (JCc O h (fun h hb=>?_) (fun h hb=>?_))))
  ·
   refine G3 (Yy (G0 v21) O ?_)
   obtain⟨v26,hv26,h⟩:=Qq h
   refine JLh (G0 v26) (Hs hv26 O O O) O (Yy (G0 v26) O (G7 (e16 _ _ m16 (v26,s16.2) (app1 hn16 h) (by omega) ⟨(by repeat' constructor),G,rfl⟩)))
  ·
   refine G3 (Yy (G0 v21) O (Yy (G0 v21) O (G7 (e16 _ _ m16 (s16.1,v21) (app1 hn16 h) (by omega) ⟨(by repeat' constructor),G,rfl⟩))))
 ·
  refine Hi (hK4 (Jr fun hK27=>(Yy (G0 s16.1) O (Yy (G0 s16.1) O (Yy (Eg x.length) O (JLh (BL (decide (s16.1 < (x.length:Int)))) (J4 O O O) O (Yy (BL (decide (s16.1 < (x.length:Int)))) O (JLo (E0 x) [] O .sct G (fun hc=>G5 O O) O (JLo (G0 s16.1) [] O .sct G (fun hc=>G5 O O) O ?_)))))))))
  obtain⟨y28,hy28,h⟩:=Ge h
  refine JLo (.dptr [G0 y28]) [36,37] O .sct ⟨Ua,Ua,G⟩ (fun hc=>(match Q3 (Gx hc hy28) with | ⟨_,hm_,hy_⟩=>Gv (f:=G0) (xs:=x) (y:=y28) O O O Gu hy_ hm_)) O (JLo (G0 y28) [38] O .sct ⟨Ua,G⟩ (fun hc=>Gg Gd O O O) O (JLo (G0 target) [] O .sct G (fun hc=>G5 O O) O (JLo (BL (decide (y28=target))) [39,40] O .sct ⟨Ua,Ua,G⟩ (fun hc=>Jt O O O) O (JLo (BL (decide (y28=target))) [41] O .sct ⟨Ua,G⟩ (fun hc=>G5 O O) O (JLo (E0 x) [] O .optf G (fun hc=>G5 O O) O (JLo (G0 s16.1) [] O .optf G (fun hc=>G5 O O) O ?_))))))
  obtain⟨y29,hy29,h⟩:=Ge h
  refine JLo (.dptr [G0 y29]) [43,44] O .optf ⟨Ua,Ua,G⟩ (fun hc=>(match Q3 (Gx hc hy29) with | ⟨_,hm_,hy_⟩=>Gv (f:=G0) (xs:=x) (y:=y29) O O O Gu hy_ hm_)) O (JLo (G0 y29) [45] O .optf ⟨Ua,G⟩ (fun hc=>Gg Gd O O O) O ?_)
  obtain⟨r30,hr30,h⟩:=Ge h
  refine JLo (BL r30) [46] O .optf ⟨Ua,G⟩ (fun hc=>Gn (args:=[G0 y29]) O (Gd3 y29 r30 (Gx hc hr30)) J43 ⟨O,O,G⟩) O (JLo (BL r30) [47] O .optf ⟨Ua,G⟩ (fun hc=>G5 O O) O (JLo (G0 target) [] O .optt G (fun hc=>G5 O O) O ?_))
  obtain⟨r31,hr31,h⟩:=Ge h
  refine JLo (BL r31) [49] O .optt ⟨Ua,G⟩ (fun hc=>Gn (args:=[G0 target]) O (Gd3 target r31 (Gx hc hr31)) J43 ⟨O,O,G⟩) O (G9 (u:=BL (r30&&r31)) [(48,BL r30),(50,_)] O O O .optf ⟨.all id,.part,G⟩ (fun hc=>Hx O O O O) ?_)
  refine G9 (u:=BL ((decide (y28=target))||(r30&&r31))) [(42,BL (decide (y28=target))),(51,_)] O O O .sct ⟨.all id,.part,G⟩ (fun hc=>Yi O O O O) ?_
  refine JLh (BL ((decide (s16.1 < (x.length:Int)))&&((decide (y28=target))||(r30&&r31)))) (Hx O O O O) O (Yy (G0 s16.1) O (Yy (BL ((decide (s16.1 < (x.length:Int)))&&((decide (y28=target))||(r30&&r31)))) O (G7 (hK27 (Gr (⟨[G0 s16.1,BL ((decide (s16.1 < (x.length:Int)))&&((decide (y28=target))||(r30&&r31)))],[],G,O,⟨⟨_,O,.conv (.same O)⟩,⟨_,O,.conv (.same O)⟩,G⟩,O,congrArg (fun r:Int×Bool=>(.tup [G0 r.1,BL r.2]:AV)) (Option.some.inj h)⟩))))))

def Hae (F:Nat) (s:H4) (boxes:List Gh) (l:List Stowed) (open_:List Int) (cover:Int):Option ((List Int)×Int):=
 bnd (Ze s boxes l open_) fun r4=>
 bif (!r4) then
 (some ([],2))
 else
 (bif ((decide (cover < 0))||(decide ((s.Covers.length:Int)≤cover))) then
  (some ([],6))
  else
  (bnd (G98 s l cover) fun r9=>
   bif decide (0 < (r9.length:Int)) then
   (some ([],95))
   else
   (bnd (G22 F open_ cover) fun r12=>
    bif r12.2 then
    (bnd (Yk open_) fun r16=>
     some (r16,0))
    else
    (bnd (Gdd open_ r12.1 cover) fun r18=>
     some (r18,0)))))
theorem M_stow_Open_w (F:Nat) (s:H4) (boxes:List Gh) (l:List Stowed) (open_:List Int) (cover:Int) (r:(List Int)×Int) (h:Hae F s boxes l open_ cover=some r):Pure Eh 32 [.agg (H4.cs s),E2 boxes,E1 l,E0 open_,G0 cover] (·=.tup [E0 r.1,G0 r.2]):=by
 unfold Hae at h
 refine Gy [.tmp 10,.tmp 11] Tryz.func32 O O (Jr fun hK1=>(JLh (.ptr 1046 0) (Ji (cs:=(H4.cs s)) 1046 O O O O O) O (JLh (E0 ([]:List Int)) (Hy 1 O O) O (Yy (G0 0) O (G7 (hK1 ?_))))))
 refine Gz [(1,E2 boxes),(2,E1 l),(3,E0 open_),(4,G0 cover),(5,Ea s)] [] 1046 rfl rfl rfl G rfl (by repeat' (first | exact .ptr | constructor)) (Js fun hK2=>Gs ?_)
 refine Jr fun hK3=>(JLh (.agg (H4.cs s)) (Gi Hu O O O) O (Yy (E2 boxes) O (Yy (E1 l) O (Yy (E0 open_) O ?_))))
 obtain⟨r4,hr4,h⟩:=Ge h
 refine JLh (BL r4) (Gn O (G70 s boxes l open_ r4 hr4) H62 ⟨O,O,O,O,O,O,O,O,G⟩) O (JLh (BL (!r4)) (R5 (b:=r4) O O) O (Yy (BL (!r4)) O (G7 (hK3 (JCc O h (fun h hb=>?_) (fun h hb=>?_))))))
 ·
  refine Jr fun hK5=>(JLh (E0 ([]:List Int)) (Hy 1 O O) O (Yy (G0 2) O (G7 (hK5 (Gr (⟨[E0 ([]:List Int),G0 2],[],G,O,⟨⟨_,O,.conv (.same O)⟩,⟨_,O,.conv (.same O)⟩,G⟩,O,congrArg (fun r:(List Int)×Int=>(.tup [E0 r.1,G0 r.2]:AV)) (Option.some.inj h)⟩))))))
 ·
  refine Jr fun hK6=>(Yy (G0 cover) O (JLh (BL (decide (cover < 0))) (J4 O O O) O (Yy (BL (decide (cover < 0))) O (JLo (G0 cover) [] O .scf G (fun hc=>G5 O O) O (JLo (.dptr [E3 s.Covers,G0 s.Light.Kilos,G0 s.Light.X,G0 s.Light.Y,G0 s.Light.Z,E6 s.Rows,E5 s.Frames,E7 s.Tanks,G0 s.G2.Tolerance,G0 s.G2.Trim,G0 s.G2.List_,G0 s.G2.Stability]) [] O .scf G (fun hc=>Ga Je O O O) O (JLo (E3 s.Covers) [26] O .scf ⟨Ua,G⟩ (fun hc=>Gg Jv O O O) O (JLo (Eg s.Covers.length) [27] O .scf ⟨Ua,G⟩ (fun hc=>Qi (f:=Gc.av) (xs:=s.Covers) Hh O O) O (JLo (BL (decide ((s.Covers.length:Int)≤cover))) [25,28] O .scf ⟨Ua,Ua,G⟩ (fun hc=>G17 O O O) O (JLh (BL ((decide (cover < 0))||(decide ((s.Covers.length:Int)≤cover)))) (Yi O O O O) O (Yy (BL ((decide (cover < 0))||(decide ((s.Covers.length:Int)≤cover)))) O (G7 (hK6 ?_))))))))))))
  refine JCc O h (fun h hb=>?_) (fun h hb=>?_)
  ·
   refine Jr fun hK7=>(JLh (E0 ([]:List Int)) (Hy 1 O O) O (Yy (G0 6) O (G7 (hK7 (Gr (⟨[E0 ([]:List Int),G0 6],[],G,O,⟨⟨_,O,.conv (.same O)⟩,⟨_,O,.conv (.same O)⟩,G⟩,O,congrArg (fun r:(List Int)×Int=>(.tup [E0 r.1,G0 r.2]:AV)) (Option.some.inj h)⟩))))))
  ·
   refine Jr fun hK8=>(JLh (.agg (H4.cs s)) (Gi Hu O O O) O (Yy (E1 l) O (Yy (G0 cover) O ?_)))
   obtain⟨r9,hr9,h⟩:=Ge h
   refine JLh (E0 r9) (Gn O (Hcf s l cover r9 hr9) J8e ⟨O,O,O,O,O,O,G⟩) O (JLl Gu O O O fun hm36=>(JLh (BL (decide (0 < (r9.length:Int)))) (G2c O O O) O (Yy (BL (decide (0 < (r9.length:Int)))) O (G7 (hK8 (JCc O h (fun h hb=>?_) (fun h hb=>?_)))))))
   ·
    refine Jr fun hK10=>(JLh (E0 ([]:List Int)) (Hy 1 O O) O (Yy (G0 95) O (G7 (hK10 (Gr (⟨[E0 ([]:List Int),G0 95],[],G,O,⟨⟨_,O,.conv (.same O)⟩,⟨_,O,.conv (.same O)⟩,G⟩,O,congrArg (fun r:(List Int)×Int=>(.tup [E0 r.1,G0 r.2]:AV)) (Option.some.inj h)⟩))))))
   ·
    refine Gp (hK2 (Jr fun hK11=>(Yy (E0 open_) O (Yy (G0 cover) O ?_))))
    obtain⟨r12,hr12,h⟩:=Ge h
    refine JLh (.tup [G0 r12.1,BL r12.2]) (Gn O (Gf7 F open_ cover r12 hr12) Q36 ⟨O,O,O,O,G⟩) O (Yy (.tup [G0 r12.1,BL r12.2]) O (JLh (G0 r12.1) (Hv O O O) O (JLh (BL r12.2) (Hv O O O) O (Yy (G0 r12.1) O (Yy (BL r12.2) O (G7 (hK11 (Js fun hK13=>Jr fun hK14=>(Yy (BL r12.2) O (G7 (hK14 (JCc O h (fun h hb=>?_) (fun h hb=>?_)))))))))))))
    ·
     refine Jr fun hK15=>(Yy (E0 open_) O ?_)
     obtain⟨r16,hr16,h⟩:=Ge h
     refine JLh (E0 r16) (Gn O (Hb1 open_ r16 hr16) Q35 ⟨O,O,G⟩) O (Yy (E0 r16) O (Yy (G0 0) O (G7 (hK15 (Gr (⟨[E0 r16,G0 0],[],G,O,⟨⟨_,O,.conv (.same O)⟩,⟨_,O,.conv (.same O)⟩,G⟩,O,congrArg (fun r:(List Int)×Int=>(.tup [E0 r.1,G0 r.2]:AV)) (Option.some.inj h)⟩))))))
    ·
     refine Gp (hK13 (Jr fun hK17=>(Yy (E0 open_) O (Yy (G0 r12.1) O (Yy (G0 cover) O ?_)))))
     obtain⟨r18,hr18,h⟩:=Ge h
     refine JLh (E0 r18) (Gn O (J17.down open_ r12.1 cover r18 hr18) Q34 ⟨O,O,O,O,O,O,G⟩) O (Yy (E0 r18) O (Yy (G0 0) O (G7 (hK17 (Gr (⟨[E0 r18,G0 0],[],G,O,⟨⟨_,O,.conv (.same O)⟩,⟨_,O,.conv (.same O)⟩,G⟩,O,congrArg (fun r:(List Int)×Int=>(.tup [E0 r.1,G0 r.2]:AV)) (Option.some.inj h)⟩))))))

def G79 (p:Hz):Option Bool:=
 bnd (G3b p.s p.x.Slot.G4) fun r4=>
 bnd (bif decide (0≤r4) then Qm p.s.Columns p.x.Slot.G4 some else some default) fun y6=>
 bnd (bif decide (0≤r4) then Rc p.open_ r4 else some default) fun r7=>
 some ((decide (0≤r4))&&(y6.Deck==r7))
theorem H80 (p:Hz) (r:Bool) (h:G79 p=some r):Pure Eh 82 [.agg (Hz.cs p)] (·=BL r):=by
 unfold G79 at h
 refine Gy [.tmp 2] Tryz.func82 O O (Jr fun hK1=>(JLh (.ptr 1099 0) (Ji (cs:=(Hz.cs p)) 1099 O O O O O) O (Yy (BL false) O (G7 (hK1 ?_)))))
 refine Gz [(1,Ee p)] [] 1099 rfl rfl rfl G rfl (by exact⟨.ptr,G⟩) (Jr fun hK2=>(JLh (Eb p.x) (Ga G35 O O O) O (JLh (.dptr ((Stowed.cs p.x).drop 1)) (Ga Ht O O O) O (JLh (.dptr ((Stowed.cs p.x).drop 1)) (Ga J6 O O O) O (JLh (G0 p.x.Slot.G4) (Gg Gd O O O) O (Yy (G0 p.x.Slot.G4) O (G7 (hK2 ?_))))))))
 refine Jr fun hK3=>(JLh (Ee p) (Ga Gfc O O O) O (JLh (.agg (H4.cs p.s)) (Gi Hu O O O) O (Yy (G0 p.x.Slot.G4) O ?_)))
 obtain⟨r4,hr4,h⟩:=Ge h
 refine JLh (G0 r4) (Gn O (H57 p.s p.x.Slot.G4 r4 hr4) J44 ⟨O,O,O,O,G⟩) O (Yy (G0 r4) O (G7 (hK3 (Js fun hK5=>?_))))
 obtain⟨y6,hy6,h⟩:=Ge h
 obtain⟨r7,hr7,h⟩:=Ge h
 refine JC_d0 J8 (by kernel_rfl) (Dq (G0 r4) (G5 O O) O (Dq (BL (decide (0≤r4))) (G17 O O O) O (Dq (BL (decide (0≤r4))) (G5 O O) O (Do (Ee p) [] O .sct G (fun hc=>Ga Gfc O O O) O (Do (Ee p) [16] O .sct ⟨Ua,G⟩ (fun hc=>Ga Hd O O O) O (Do (E4 p.s.Columns) [17] O .sct ⟨Ua,G⟩ (fun hc=>Gg Hm O O O) O (Do (G0 p.x.Slot.G4) [] O .sct G (fun hc=>G5 O O) O (Do (Ec y6) [18,19] O .sct ⟨Ua,Ua,G⟩ (fun hc=>(match Q3 (Gx hc hy6) with | ⟨_,hm_,hy_⟩=>Gv (f:=G4.av) (xs:=p.s.Columns) (y:=y6) O O O H5 hy_ hm_)) O (Do (.dptr ((G4.cs y6).drop 2)) [20] O .sct ⟨Ua,G⟩ (fun hc=>Ga Z3 O O O) O (Do (BL y6.Deck) [21] O .sct ⟨Ua,G⟩ (fun hc=>Gg Ra O O O) O (Do (.dptr [E0 p.open_,G0 p.x.Gh,G0 p.x.Slot.G4,G0 p.x.Slot.Tier,U8 p.x.Slot.Half]) [] O .sct G (fun hc=>Ga J86 O O O) O (Do (E0 p.open_) [23] O .sct ⟨Ua,G⟩ (fun hc=>Gg Ho O O O) O (Do (G0 r4) [] O .sct G (fun hc=>G5 O O) O ?_)))))))))))))
 refine Do (BL r7) [24,25] O .sct ⟨Ua,Ua,G⟩ (fun hc=>Gn (args:=[E0 p.open_,G0 r4]) O (G39 p.open_ r4 r7 (Gx hc hr7)) Hde ⟨O,O,O,O,G⟩) O (Do (BL (y6.Deck==r7)) [22,26] O .sct ⟨Ua,Ua,G⟩ (fun hc=>J1e Gfa O O O) O (Dq (BL ((decide (0≤r4))&&(y6.Deck==r7))) (Hx O O O O) O (Dq (BL ((decide (0≤r4))&&(y6.Deck==r7))) (G8 O O) O (Dnil (hK5 (Gr (fin1 BL h)))))))

def G29 (y:Stowed) (p1:Hz):Option Bool:=
 bnd (G9b p1.x.Slot y.Slot) fun r3=>
 some r3
theorem H77 (y:Stowed) (p1:Hz) (r:Bool) (h:G29 y p1=some r):Pure Eh 134 [.agg (Stowed.cs y),Ee p1] (·=BL r):=by
 unfold G29 at h
 refine Gy [.tmp 3] Tryz.func134 O O (Jr fun hK1=>(JLh (.ptr 1138 0) (Ji (cs:=[G0 y.Gh,G0 y.Slot.G4,G0 y.Slot.Tier,U8 y.Slot.Half]) 1138 O O O O O) O (Yy (BL false) O (G7 (hK1 (Gz [(1,Ee p1),(2,Eb y)] [] 1138 rfl rfl rfl G rfl (by exact⟨.conv (.same rfl),.ptr,G⟩) (Jr fun hK2=>(JLh (.dptr ((Hz.cs p1).drop 16)) (Ga G35 O O O) O (JLh (.dptr ((Hz.cs p1).drop 17)) (Ga Ht O O O) O (JLh (.agg ((Hz.cs p1).drop 17)) (Gi Q9 O O O) O (JLh (.dptr ((Stowed.cs y).drop 1)) (Ga Ht O O O) O (JLh (.agg ((Stowed.cs y).drop 1)) (Gi Q9 O O O) O ?_))))))))))))
 obtain⟨r3,hr3,h⟩:=Ge h
 refine JLh (BL r3) (Gn O (Hd1 p1.x.Slot y.Slot r3 hr3) J92 ⟨O,O,O,O,G⟩) O (Yy (BL r3) O (G7 (hK2 (Gr (fin1 BL h)))))

def Zh (s:List Stowed) (f:Stowed→Option Bool):Option Bool:=
 bnd (Yh s f) fun r3=>
 some (decide (0≤r3))
theorem Ga1 (s:List Stowed) (f:Stowed→Option Bool) (f_f:FuncId) (f_c:List AV) (f_B:H8 Eh f_f=true) (f_d:Zz (fun _=>false) f_c=true) (f_w:∀ a0 q,f a0=some q→Pure Eh f_f ([.agg (Stowed.cs a0)]++f_c) (·=BL q)) (r:Bool) (h:Zh s f=some r):Pure Eh 133 [E1 s,.fn f_f f_c] (·=BL r):=by
 unfold Zh at h
 refine Gy [.tmp 4] Tryz.func133 O O (Jr fun hK1=>(Yy (BL false) O (G7 (hK1 (Jr fun hK2=>(Yy (E1 s) O (Yy (.fn f_f f_c) O ?_)))))))
 obtain⟨r3,hr3,h⟩:=Ge h
 refine JLh (G0 r3) (Gn O (G38 s f f_f f_c f_B f_d f_w r3 hr3) J45 ⟨O,O,O,f_d,G⟩) O (JLh (BL (decide (0≤r3))) (G17 O O O) O (Yy (BL (decide (0≤r3))) O (G7 (hK2 (Gr (fin1 BL h))))))

def G95 (p:Hz):Option Bool:=
 bnd (Zh p.l (fun z0=>G29 z0 p)) fun r3=>
 some r3
theorem Hac (p:Hz) (r:Bool) (h:G95 p=some r):Pure Eh 83 [.agg (Hz.cs p)] (·=BL r):=by
 unfold G95 at h
 refine Gy [.tmp 2] Tryz.func83 O O (Jr fun hK1=>(JLh (.ptr 1100 0) (Ji (cs:=(Hz.cs p)) 1100 O O O O O) O (Yy (BL false) O (G7 (hK1 ?_)))))
 refine Gz [(1,Ee p)] [] 1100 rfl rfl rfl G rfl (by exact⟨.ptr,G⟩) ?_
 refine Jr fun hK2=>(JLh (.dptr [E1 p.l,E0 p.open_,G0 p.x.Gh,G0 p.x.Slot.G4,G0 p.x.Slot.Tier,U8 p.x.Slot.Half]) (Ga G5c O O O) O (JLh (E1 p.l) (Gg Z5 O O O) O (JLh (.fn 134 [.dptr (Hz.cs p)]) (G67 (cs:=[.dptr (Hz.cs p)]) O O) O ?_)))
 obtain⟨r3,hr3,h⟩:=Ge h
 refine JLh (BL r3) (Gn O (Ga1 p.l (fun z0=>G29 z0 p) 134 [.dptr (Hz.cs p)] Q07 O (fun z0 q hq=>H77 z0 p q hq) r3 hr3) Q08 ⟨O,O,O,O,G⟩) O (Yy (BL r3) O (G7 (hK2 (Gr (fin1 BL h)))))

def G62 (p:Hz):Option Bool:=
 bnd (G6e p.l) fun r3=>
 bnd (G9c p.x.Slot r3) fun r4=>
 some (!r4)
theorem H78 (p:Hz) (r:Bool) (h:G62 p=some r):Pure Eh 84 [.agg (Hz.cs p)] (·=BL r):=by
 unfold G62 at h
 refine Gy [.tmp 2] Tryz.func84 O O (Jr fun hK1=>(JLh (.ptr 1101 0) (Ji (cs:=(Hz.cs p)) 1101 O O O O O) O (Yy (BL false) O (G7 (hK1 ?_)))))
 refine Gz [(1,Ee p)] [] 1101 rfl rfl rfl G rfl (by exact⟨.ptr,G⟩) (Js fun hK2=>?_)
 obtain⟨r3,hr3,h⟩:=Ge h
 obtain⟨r4,hr4,h⟩:=Ge h
 refine JC_d0 J8 (by kernel_rfl) (Dq (Eb p.x) (Ga G35 O O O) O (Dq (.dptr ((Stowed.cs p.x).drop 1)) (Ga Ht O O O) O (Dq (.agg ((Stowed.cs p.x).drop 1)) (Gi Q9 O O O) O (Dq (.dptr [E1 p.l,E0 p.open_,G0 p.x.Gh,G0 p.x.Slot.G4,G0 p.x.Slot.Tier,U8 p.x.Slot.Half]) (Ga G5c O O O) O (Dq (E1 p.l) (Gg Z5 O O O) O (Dq (E8 r3) (Gn (args:=[E1 p.l]) O (Hab p.l r3 hr3) J95 ⟨O,O,G⟩) O (Dq (BL r4) (Gn (args:=[.agg ((Stowed.cs p.x).drop 1),E8 r3]) O (Hd2 p.x.Slot r3 r4 hr4) J93 ⟨O,O,O,O,G⟩) O (Dq (BL (!r4)) (R5 (b:=r4) O O) O (Dq (BL (!r4)) (G8 O O) O (Dnil (hK2 (Gr (fin1 BL h)))))))))))))

def G1d (F:Nat) (p:Hz):Option (List Stowed):=
 loop (fun nx10 (s10:Int)=>
  bnd (bif decide (s10 < (p.l.length:Int)) then Qm p.l s10 some else some default) fun y13=>
  bif ((decide (s10 < (p.l.length:Int)))&&(decide (y13.Gh < p.x.Gh))) then
  (G1f (s10+1) fun v14=>
   nx10 v14)
  else
  (bnd (G52 p.l s10 p.x) fun r16=>
   some r16)) F 0
theorem G99 (F:Nat) (p:Hz) (r:(List Stowed)) (h:G1d F p=some r):Pure Eh 86 [.agg (Hz.cs p)] (·=E1 r):=by
 unfold G1d at h
 refine Gy [.tmp 2] Tryz.func86 O O (Jr fun hK1=>(JLh (.ptr 1103 0) (Ji (cs:=(Hz.cs p)) 1103 O O O O O) O (JLh (E1 ([]:List Stowed)) (Hy 4 O O) O (G7 (hK1 ?_)))))
 refine Gz [(1,Ee p)] [] 1103 rfl rfl rfl G rfl (by exact⟨.ptr,G⟩) (Jr fun hK2=>(Yy (G0 0) O (G7 (hK2 (Js fun hK3=>Gs ?_)))))
 obtain⟨b10,hb10,h⟩:=loop_in h
 refine Hc (fun i10 (s10:Int)=>loop b10 i10 s10=some r) (fun i10 s10=>[(1,Ee p),(3,G0 s10)]) (fun i10 s10=>[]) (fun i10=>i10) F 0 h ⟨⟨.same O,.same O,G⟩,G,O⟩ ?_
 clear h
 intro i10 s10 hi10 K10 e10
 obtain⟨m10,nx10,hm_10,hn10,h⟩:=Jac hi10
 replace h:=app2 hb10 h
 refine Js fun hK11=>Js fun hK12=>?_
 obtain⟨y13,hy13,h⟩:=Ge h
 refine JC_d0 J8 (by kernel_rfl) (Dq (G0 s10) (G5 O O) O (Dq (.dptr [E1 p.l,E0 p.open_,G0 p.x.Gh,G0 p.x.Slot.G4,G0 p.x.Slot.Tier,U8 p.x.Slot.Half]) (Ga G5c O O O) O (Dq (E1 p.l) (Gg Z5 O O O) O (Dq (Eg p.l.length) (Qi (f:=Stowed.av) (xs:=p.l) H0 O O) O (Dq (BL (decide (s10 < (p.l.length:Int)))) (J4 O O O) O (Dq (BL (decide (s10 < (p.l.length:Int)))) (G5 O O) O (Do (.dptr [E1 p.l,E0 p.open_,G0 p.x.Gh,G0 p.x.Slot.G4,G0 p.x.Slot.Tier,U8 p.x.Slot.Half]) [] O .sct G (fun hc=>Ga G5c O O O) O (Do (E1 p.l) [10] O .sct ⟨Ua,G⟩ (fun hc=>Gg Z5 O O O) O (Do (G0 s10) [] O .sct G (fun hc=>G5 O O) O (Do (Eb y13) [11,12] O .sct ⟨Ua,Ua,G⟩ (fun hc=>(match Q3 (Gx hc hy13) with | ⟨_,hm_,hy_⟩=>Gv (f:=Stowed.av) (xs:=p.l) (y:=y13) O O O H0 hy_ hm_)) O (Do (Eb y13) [13] O .sct ⟨Ua,G⟩ (fun hc=>Ga Q5 O O O) O (Do (G0 y13.Gh) [14] O .sct ⟨Ua,G⟩ (fun hc=>Gg Gd O O O) O (Do (Eb p.x) [] O .sct G (fun hc=>Ga G35 O O O) O ?_)))))))))))))
 refine Do (Eb p.x) [16] O .sct ⟨Ua,G⟩ (fun hc=>Ga Q5 O O O) O (Do (G0 p.x.Gh) [17] O .sct ⟨Ua,G⟩ (fun hc=>Gg Gd O O O) O (Do (BL (decide (y13.Gh < p.x.Gh))) [15,18] O .sct ⟨Ua,Ua,G⟩ (fun hc=>J4 O O O) O (Dq (BL ((decide (s10 < (p.l.length:Int)))&&(decide (y13.Gh < p.x.Gh)))) (Hx O O O O) O (Dnil (hK12 (JCc O h (fun h hb=>?_) (fun h hb=>?_)))))))
 ·
  refine Gp (hK11 (Gs (G3 (Yy (G0 s10) O ?_))))
  obtain⟨v14,hv14,h⟩:=Qq h
  refine JLh (G0 v14) (Hs hv14 O O O) O (Yy (G0 v14) O (G7 (e10 _ _ m10 v14 (app1 hn10 h) (by omega) ⟨⟨.same rfl,.same rfl,G⟩,G,rfl⟩)))
 ·
  refine Hi (hK3 (Jr fun hK15=>(JLh (.dptr [E1 p.l,E0 p.open_,G0 p.x.Gh,G0 p.x.Slot.G4,G0 p.x.Slot.Tier,U8 p.x.Slot.Half]) (Ga G5c O O O) O (JLh (E1 p.l) (Gg Z5 O O O) O (Yy (G0 s10) O (JLh (Eb p.x) (Ga G35 O O O) O (JLh (.agg (Stowed.cs p.x)) (Gi G19 O O O) O ?_)))))))
  obtain⟨r16,hr16,h⟩:=Ge h
  refine JLh (E1 r16) (Gn O (H50.down p.l s10 p.x r16 hr16) Q06 ⟨O,O,O,O,O,O,G⟩) O (Yy (E1 r16) O (G7 (hK15 (Gr (fin1 (fun r:(List Stowed)=>(E1 r:AV)) h)))))

def G7a (F:Nat) (p:Hz):Option Bool:=
 bnd (G1d F p) fun r3=>
 bnd (G9a p.s p.boxes r3 p.x.Slot.G4) fun r4=>
 some (!r4)
theorem H81 (F:Nat) (p:Hz) (r:Bool) (h:G7a F p=some r):Pure Eh 85 [.agg (Hz.cs p)] (·=BL r):=by
 unfold G7a at h
 refine Gy [.tmp 2] Tryz.func85 O O (Jr fun hK1=>(JLh (.ptr 1102 0) (Ji (cs:=(Hz.cs p)) 1102 O O O O O) O (Yy (BL false) O (G7 (hK1 ?_)))))
 refine Gz [(1,Ee p)] [] 1102 rfl rfl rfl G rfl (by exact⟨.ptr,G⟩) (Js fun hK2=>?_)
 obtain⟨r3,hr3,h⟩:=Ge h
 obtain⟨r4,hr4,h⟩:=Ge h
 refine JC_d0 J8 (by kernel_rfl) (Dq (Ee p) (Ga Gfc O O O) O (Dq (.agg (H4.cs p.s)) (Gi Hu O O O) O (Dq (.dptr [E2 p.boxes,E1 p.l,E0 p.open_,G0 p.x.Gh,G0 p.x.Slot.G4,G0 p.x.Slot.Tier,U8 p.x.Slot.Half]) (Ga J87 O O O) O (Dq (E2 p.boxes) (Gg Jeb O O O) O (Dq (.agg (Hz.cs p)) (Gi Gbb O O O) O (Dq (E1 r3) (Gn (args:=[.agg (Hz.cs p)]) O (G99 F p r3 hr3) J8d ⟨O,O,G⟩) O (Dq (Eb p.x) (Ga G35 O O O) O (Dq (.dptr ((Stowed.cs p.x).drop 1)) (Ga Ht O O O) O (Dq (.dptr ((Stowed.cs p.x).drop 1)) (Ga J6 O O O) O (Dq (G0 p.x.Slot.G4) (Gg Gd O O O) O (Dq (BL r4) (Gn (args:=[.agg (H4.cs p.s),E2 p.boxes,E1 r3,G0 p.x.Slot.G4]) O (Hd0 p.s p.boxes r3 p.x.Slot.G4 r4 hr4) J91 ⟨O,O,O,O,O,O,O,O,G⟩) O (Dq (BL (!r4)) (R5 (b:=r4) O O) O (Dq (BL (!r4)) (G8 O O) O (Dnil ?_))))))))))))))
 refine hK2 (Gr (fin1 BL h))

def H79 (F:Nat) (s:H4) (boxes:List Gh) (l:List Stowed) (open_:List Int) (x:Stowed):Option ((List Stowed)×Int):=
 bnd (Ze s boxes l open_) fun r4=>
 bif (!r4) then
 (some ([],2))
 else
 (bnd (G2a boxes x.Gh) fun r7=>
  bif ((!r7.2)||((decide (r7.1.Size≠20))&&(decide (r7.1.Size≠40)))) then
  (some ([],6))
  else
  (bnd (G16 l x.Gh) fun r12=>
   bif decide (0≤r12) then
   (some ([],96))
   else
   (bnd (G71 s x.Slot r7.1.Size) fun r15=>
    bif (!r15) then
    (some ([],97))
    else
    (need (decide (4≤9223372036854775807)) <|
     upto (fun i60 (s60:Unit) nx60=>
      jp (fun kj63=>
       bif decide ((i60:Int)=0) then
       (bnd (G79 (Hz.mk s boxes l open_ x)) fun r67=>
        bif r67 then
        (G1f (91+(i60:Int)) fun v69=>
         some ([],v69))
        else
        (kj63 ()))
       else
       (bif decide ((i60:Int)=1) then
        (bnd (G95 (Hz.mk s boxes l open_ x)) fun r71=>
         bif r71 then
         (G1f (91+(i60:Int)) fun v73=>
          some ([],v73))
         else
         (kj63 ()))
        else
        (bif decide ((i60:Int)=2) then
         (bnd (G62 (Hz.mk s boxes l open_ x)) fun r75=>
          bif r75 then
          (G1f (91+(i60:Int)) fun v77=>
           some ([],v77))
          else
          (kj63 ()))
         else
         (bif decide ((i60:Int)=3) then
          (bnd (G7a F (Hz.mk s boxes l open_ x)) fun r79=>
           bif r79 then
           (G1f (91+(i60:Int)) fun v81=>
            some ([],v81))
           else
           (kj63 ()))
          else
          (none))))) fun(j63:Unit)=>
      nx60 ())
     (fun(s60:Unit)=>
      bnd (G1d F (Hz.mk s boxes l open_ x)) fun r83=>
      some (r83,0)) (4:Int).toNat 0 ()))))
theorem J19 (F:Nat) (s:H4) (boxes:List Gh) (l:List Stowed) (open_:List Int) (x:Stowed) (r:(List Stowed)×Int) (h:H79 F s boxes l open_ x=some r):Pure Eh 28 [.agg (H4.cs s),E2 boxes,E1 l,E0 open_,.agg (Stowed.cs x)] (·=.tup [E1 r.1,G0 r.2]):=by
 unfold H79 at h
 refine Gy [.tmp 10,.tmp 11] Tryz.func28 O O (Jr fun hK1=>(JLh (.ptr 1041 0) (Ji (cs:=(H4.cs s)) 1041 O O O O O) O (JLh (.ptr 1042 0) (Ji (cs:=[G0 x.Gh,G0 x.Slot.G4,G0 x.Slot.Tier,U8 x.Slot.Half]) 1042 O O O O O) O (JLh (E1 ([]:List Stowed)) (Hy 4 O O) O (Yy (G0 0) O (G7 (hK1 ?_)))))))
 refine Gz [(1,E2 boxes),(2,E1 l),(3,E0 open_),(5,Ea s),(9,.ptr 1042 0)] [(1042,.box 63 [G0 x.Gh,G0 x.Slot.G4,G0 x.Slot.Tier,U8 x.Slot.Half])] 1041 rfl rfl rfl ⟨⟨_,rfl,.boxEq rfl rfl⟩,G⟩ rfl (by repeat' (first | exact .ptr | constructor)) ?_
 refine Gz [(1,E2 boxes),(2,E1 l),(3,E0 open_),(5,Ea s),(9,Eb x)] [] 1042 rfl rfl rfl G rfl (by repeat' (first | exact .ptr | constructor)) (Js fun hK2=>?_)
 refine Jr fun hK3=>(JLh (.agg (H4.cs s)) (Gi Hu O O O) O (Yy (E2 boxes) O (Yy (E1 l) O (Yy (E0 open_) O ?_))))
 obtain⟨r4,hr4,h⟩:=Ge h
 refine JLh (BL r4) (Gn O (G70 s boxes l open_ r4 hr4) H62 ⟨O,O,O,O,O,O,O,O,G⟩) O (JLh (BL (!r4)) (R5 (b:=r4) O O) O (G7 (hK3 (JCc O h (fun h hb=>?_) (fun h hb=>?_)))))
 ·
  refine Jr fun hK5=>(JLh (E1 ([]:List Stowed)) (Hy 4 O O) O (Yy (G0 2) O (G7 (hK5 (Gr (⟨[E1 ([]:List Stowed),G0 2],[],G,O,⟨⟨_,O,.conv (.same O)⟩,⟨_,O,.conv (.same O)⟩,G⟩,O,congrArg (fun r:(List Stowed)×Int=>(.tup [E1 r.1,G0 r.2]:AV)) (Option.some.inj h)⟩))))))
 ·
  refine Gp (hK2 (Jr fun hK6=>(Yy (E2 boxes) O (JLh (Eb x) (Ga Q5 O O O) O (JLh (G0 x.Gh) (Gg Gd O O O) O ?_)))))
  obtain⟨r7,hr7,h⟩:=Ge h
  refine JLh (.tup [.agg (Gh.cs r7.1),BL r7.2]) (Gn O (Gca boxes x.Gh r7 hr7) H65 ⟨O,O,O,O,G⟩) O (Yy (.tup [.agg (Gh.cs r7.1),BL r7.2]) O (JLh (.agg (Gh.cs r7.1)) (Hv O O O) O (JLh (BL r7.2) (Hv O O O) O (JLh (.ptr 1043 0) (Qf 1043 9 G24 O O) O (Jk (u:=.junk) (Jb (u:=.agg (Gh.cs r7.1)) (ds:=(Gh.cs r7.1)) G08 O O O O O O O O) (Yy (BL r7.2) O (G7 (hK6 ?_))))))))
  refine Gz [(1,E2 boxes),(2,E1 l),(3,E0 open_),(5,Ea s),(9,Eb x),(12,Ed r7.1),(13,BL r7.2)] [] 1043 rfl rfl rfl G rfl (by repeat' (first | exact .ptr | constructor)) (Js fun hK8=>Gs ?_)
  refine Jr fun hK9=>(Yy (BL r7.2) O (JLh (BL (!r7.2)) (R5 (b:=r7.2) O O) O (Yy (BL (!r7.2)) O (JLo (.dptr ((Gh.cs r7.1).drop 2)) [] O .scf G (fun hc=>Ga G7b O O O) O (JLo (U8 r7.1.Size) [34] O .scf ⟨Ua,G⟩ (fun hc=>Gg Jh O O O) O (JLo (BL (decide (r7.1.Size≠20))) [35] O .scf ⟨Ua,G⟩ (fun hc=>G3d O O O) O (JLo (BL (decide (r7.1.Size≠20))) [36] O .scf ⟨Ua,G⟩ (fun hc=>G5 O O) O (JLo (.dptr ((Gh.cs r7.1).drop 2)) [] O .optt G (fun hc=>Ga G7b O O O) O (JLo (U8 r7.1.Size) [38] O .optt ⟨Ua,G⟩ (fun hc=>Gg Jh O O O) O (JLo (BL (decide (r7.1.Size≠40))) [39] O .optt ⟨Ua,G⟩ (fun hc=>G3d O O O) O (G9 (u:=BL ((decide (r7.1.Size≠20))&&(decide (r7.1.Size≠40)))) [(37,BL (decide (r7.1.Size≠20))),(40,_)] O O O .scf ⟨.all id,.part,G⟩ (fun hc=>Hx O O O O) ?_)))))))))))
  refine JLh (BL ((!r7.2)||((decide (r7.1.Size≠20))&&(decide (r7.1.Size≠40))))) (Yi O O O O) O (Yy (BL ((!r7.2)||((decide (r7.1.Size≠20))&&(decide (r7.1.Size≠40))))) O (G7 (hK9 (JCc O h (fun h hb=>?_) (fun h hb=>?_)))))
  ·
   refine Jr fun hK10=>(JLh (E1 ([]:List Stowed)) (Hy 4 O O) O (Yy (G0 6) O (G7 (hK10 (Gr (⟨[E1 ([]:List Stowed),G0 6],[],G,O,⟨⟨_,O,.conv (.same O)⟩,⟨_,O,.conv (.same O)⟩,G⟩,O,congrArg (fun r:(List Stowed)×Int=>(.tup [E1 r.1,G0 r.2]:AV)) (Option.some.inj h)⟩))))))
  ·
   refine Jr fun hK11=>(Yy (E1 l) O (JLh (Eb x) (Ga Q5 O O O) O (JLh (G0 x.Gh) (Gg Gd O O O) O ?_)))
   obtain⟨r12,hr12,h⟩:=Ge h
   refine JLh (G0 r12) (Gn O (G86 l x.Gh r12 hr12) Gfe ⟨O,O,O,O,G⟩) O (JLh (BL (decide (0≤r12))) (G17 O O O) O (Yy (BL (decide (0≤r12))) O (G7 (hK11 (JCc O h (fun h hb=>?_) (fun h hb=>?_))))))
   ·
    refine Jr fun hK13=>(JLh (E1 ([]:List Stowed)) (Hy 4 O O) O (Yy (G0 96) O (G7 (hK13 (Gr (⟨[E1 ([]:List Stowed),G0 96],[],G,O,⟨⟨_,O,.conv (.same O)⟩,⟨_,O,.conv (.same O)⟩,G⟩,O,congrArg (fun r:(List Stowed)×Int=>(.tup [E1 r.1,G0 r.2]:AV)) (Option.some.inj h)⟩))))))
   ·
    refine Jr fun hK14=>(JLh (.agg (H4.cs s)) (Gi Hu O O O) O (JLh (.dptr ((Stowed.cs x).drop 1)) (Ga Ht O O O) O (JLh (.agg ((Stowed.cs x).drop 1)) (Gi Q9 O O O) O (JLh (.dptr ((Gh.cs r7.1).drop 2)) (Ga G7b O O O) O (JLh (U8 r7.1.Size) (Gg Jh O O O) O ?_)))))
    obtain⟨r15,hr15,h⟩:=Ge h
    refine JLh (BL r15) (Gn O (Haf s x.Slot r7.1.Size r15 hr15) J94 ⟨O,O,O,O,O,O,G⟩) O (JLh (BL (!r15)) (R5 (b:=r15) O O) O (Yy (BL (!r15)) O (G7 (hK14 (JCc O h (fun h hb=>?_) (fun h hb=>?_))))))
    ·
     refine Jr fun hK16=>(JLh (E1 ([]:List Stowed)) (Hy 4 O O) O (Yy (G0 97) O (G7 (hK16 (Gr (⟨[E1 ([]:List Stowed),G0 97],[],G,O,⟨⟨_,O,.conv (.same O)⟩,⟨_,O,.conv (.same O)⟩,G⟩,O,congrArg (fun r:(List Stowed)×Int=>(.tup [E1 r.1,G0 r.2]:AV)) (Option.some.inj h)⟩))))))
    ·
     refine Gp (hK8 ?_)
     refine Jr fun hK17=>(JLh (.agg (H4.cs s)) (Gi Hu O O O) O (Yy (E2 boxes) O (Yy (E1 l) O (Yy (E0 open_) O (JLh (.agg (Stowed.cs x)) (Gi G19 O O O) O (JLh (.agg [E4 s.Columns,E3 s.Covers,G0 s.Light.Kilos,G0 s.Light.X,G0 s.Light.Y,G0 s.Light.Z,E6 s.Rows,E5 s.Frames,E7 s.Tanks,G0 s.G2.Tolerance,G0 s.G2.Trim,G0 s.G2.List_,G0 s.G2.Stability,E2 boxes,E1 l,E0 open_,G0 x.Gh,G0 x.Slot.G4,G0 x.Slot.Tier,U8 x.Slot.Half]) (Jq (cs:=[E4 s.Columns,E3 s.Covers,G0 s.Light.Kilos,G0 s.Light.X,G0 s.Light.Y,G0 s.Light.Z,E6 s.Rows,E5 s.Frames,E7 s.Tanks,G0 s.G2.Tolerance,G0 s.G2.Trim,G0 s.G2.List_,G0 s.G2.Stability,E2 boxes,E1 l,E0 open_,G0 x.Gh,G0 x.Slot.G4,G0 x.Slot.Tier,U8 x.Slot.Half]) [(0,13),(13,1),(14,1),(15,1),(16,4)] [E4 ([]:List G4),E3 ([]:List Gc),G0 0,G0 0,G0 0,G0 0,E6 ([]:List Row),E5 ([]:List Frame),E7 ([]:List Gj),G0 0,G0 0,G0 0,G0 0,E2 ([]:List Gh),E1 ([]:List Stowed),E0 ([]:List Int),G0 0,G0 0,G0 0,U8 0] [.slice none 0 0,.slice none 0 0,.int .i64 0,.int .i64 0,.int .i64 0,.int .i64 0,.slice none 0 0,.slice none 0 0,.slice none 0 0,.int .i64 0,.int .i64 0,.int .i64 0,.int .i64 0,.slice none 0 0,.slice none 0 0,.slice none 0 0,.int .i64 0,.int .i64 0,.int .i64 0,.int .u8 0] Jd8 Jf3 ⟨.inr ⟨_,O,O⟩,.inr ⟨_,O,O⟩,.inl O,.inl O,.inl O,.inl O,.inr ⟨_,O,O⟩,.inr ⟨_,O,O⟩,.inr ⟨_,O,O⟩,.inl O,.inl O,.inl O,.inl O,.inr ⟨_,O,O⟩,.inr ⟨_,O,O⟩,.inr ⟨_,O,O⟩,.inl O,.inl O,.inl O,.inl O,G⟩ O O) O (JLh (.ptr 1044 0) (Qf 1044 20 Je7 O O) O (Jk (u:=.junk) (Jb (u:=.agg [E4 s.Columns,E3 s.Covers,G0 s.Light.Kilos,G0 s.Light.X,G0 s.Light.Y,G0 s.Light.Z,E6 s.Rows,E5 s.Frames,E7 s.Tanks,G0 s.G2.Tolerance,G0 s.G2.Trim,G0 s.G2.List_,G0 s.G2.Stability,E2 boxes,E1 l,E0 open_,G0 x.Gh,G0 x.Slot.G4,G0 x.Slot.Tier,U8 x.Slot.Half]) (ds:=[E4 s.Columns,E3 s.Covers,G0 s.Light.Kilos,G0 s.Light.X,G0 s.Light.Y,G0 s.Light.Z,E6 s.Rows,E5 s.Frames,E7 s.Tanks,G0 s.G2.Tolerance,G0 s.G2.Trim,G0 s.G2.List_,G0 s.G2.Stability,E2 boxes,E1 l,E0 open_,G0 x.Gh,G0 x.Slot.G4,G0 x.Slot.Tier,U8 x.Slot.Half]) Jf8 O O O O O O O O) (G7 (hK17 ?_))))))))))
     refine Gz [(14,.dptr [E4 s.Columns,E3 s.Covers,G0 s.Light.Kilos,G0 s.Light.X,G0 s.Light.Y,G0 s.Light.Z,E6 s.Rows,E5 s.Frames,E7 s.Tanks,G0 s.G2.Tolerance,G0 s.G2.Trim,G0 s.G2.List_,G0 s.G2.Stability,E2 boxes,E1 l,E0 open_,G0 x.Gh,G0 x.Slot.G4,G0 x.Slot.Tier,U8 x.Slot.Half])] [] 1044 rfl rfl rfl G rfl (by exact⟨.ptr,G⟩) (Js fun hK18=>?_)
     refine Jr fun hK19=>(JLh (.agg [E4 s.Columns,E3 s.Covers,G0 s.Light.Kilos,G0 s.Light.X,G0 s.Light.Y,G0 s.Light.Z,E6 s.Rows,E5 s.Frames,E7 s.Tanks,G0 s.G2.Tolerance,G0 s.G2.Trim,G0 s.G2.List_,G0 s.G2.Stability,E2 boxes,E1 l,E0 open_,G0 x.Gh,G0 x.Slot.G4,G0 x.Slot.Tier,U8 x.Slot.Half]) (Gi Gbb O O O) O (JLh (.bfn 82 [.agg [E4 s.Columns,E3 s.Covers,G0 s.Light.Kilos,G0 s.Light.X,G0 s.Light.Y,G0 s.Light.Z,E6 s.Rows,E5 s.Frames,E7 s.Tanks,G0 s.G2.Tolerance,G0 s.G2.Trim,G0 s.G2.List_,G0 s.G2.Stability,E2 boxes,E1 l,E0 open_,G0 x.Gh,G0 x.Slot.G4,G0 x.Slot.Tier,U8 x.Slot.Half]]) (H39 (cs:=[.agg [E4 s.Columns,E3 s.Covers,G0 s.Light.Kilos,G0 s.Light.X,G0 s.Light.Y,G0 s.Light.Z,E6 s.Rows,E5 s.Frames,E7 s.Tanks,G0 s.G2.Tolerance,G0 s.G2.Trim,G0 s.G2.List_,G0 s.G2.Stability,E2 boxes,E1 l,E0 open_,G0 x.Gh,G0 x.Slot.G4,G0 x.Slot.Tier,U8 x.Slot.Half]]) O O) O (JLh (.agg [E4 s.Columns,E3 s.Covers,G0 s.Light.Kilos,G0 s.Light.X,G0 s.Light.Y,G0 s.Light.Z,E6 s.Rows,E5 s.Frames,E7 s.Tanks,G0 s.G2.Tolerance,G0 s.G2.Trim,G0 s.G2.List_,G0 s.G2.Stability,E2 boxes,E1 l,E0 open_,G0 x.Gh,G0 x.Slot.G4,G0 x.Slot.Tier,U8 x.Slot.Half]) (Gi Gbb O O O) O (JLh (.bfn 83 [.agg [E4 s.Columns,E3 s.Covers,G0 s.Light.Kilos,G0 s.Light.X,G0 s.Light.Y,G0 s.Light.Z,E6 s.Rows,E5 s.Frames,E7 s.Tanks,G0 s.G2.Tolerance,G0 s.G2.Trim,G0 s.G2.List_,G0 s.G2.Stability,E2 boxes,E1 l,E0 open_,G0 x.Gh,G0 x.Slot.G4,G0 x.Slot.Tier,U8 x.Slot.Half]]) (H39 (cs:=[.agg [E4 s.Columns,E3 s.Covers,G0 s.Light.Kilos,G0 s.Light.X,G0 s.Light.Y,G0 s.Light.Z,E6 s.Rows,E5 s.Frames,E7 s.Tanks,G0 s.G2.Tolerance,G0 s.G2.Trim,G0 s.G2.List_,G0 s.G2.Stability,E2 boxes,E1 l,E0 open_,G0 x.Gh,G0 x.Slot.G4,G0 x.Slot.Tier,U8 x.Slot.Half]]) O O) O (JLh (.agg [E4 s.Columns,E3 s.Covers,G0 s.Light.Kilos,G0 s.Light.X,G0 s.Light.Y,G0 s.Light.Z,E6 s.Rows,E5 s.Frames,E7 s.Tanks,G0 s.G2.Tolerance,G0 s.G2.Trim,G0 s.G2.List_,G0 s.G2.Stability,E2 boxes,E1 l,E0 open_,G0 x.Gh,G0 x.Slot.G4,G0 x.Slot.Tier,U8 x.Slot.Half]) (Gi Gbb O O O) O (JLh (.bfn 84 [.agg [E4 s.Columns,E3 s.Covers,G0 s.Light.Kilos,G0 s.Light.X,G0 s.Light.Y,G0 s.Light.Z,E6 s.Rows,E5 s.Frames,E7 s.Tanks,G0 s.G2.Tolerance,G0 s.G2.Trim,G0 s.G2.List_,G0 s.G2.Stability,E2 boxes,E1 l,E0 open_,G0 x.Gh,G0 x.Slot.G4,G0 x.Slot.Tier,U8 x.Slot.Half]]) (H39 (cs:=[.agg [E4 s.Columns,E3 s.Covers,G0 s.Light.Kilos,G0 s.Light.X,G0 s.Light.Y,G0 s.Light.Z,E6 s.Rows,E5 s.Frames,E7 s.Tanks,G0 s.G2.Tolerance,G0 s.G2.Trim,G0 s.G2.List_,G0 s.G2.Stability,E2 boxes,E1 l,E0 open_,G0 x.Gh,G0 x.Slot.G4,G0 x.Slot.Tier,U8 x.Slot.Half]]) O O) O (JLh (.agg [E4 s.Columns,E3 s.Covers,G0 s.Light.Kilos,G0 s.Light.X,G0 s.Light.Y,G0 s.Light.Z,E6 s.Rows,E5 s.Frames,E7 s.Tanks,G0 s.G2.Tolerance,G0 s.G2.Trim,G0 s.G2.List_,G0 s.G2.Stability,E2 boxes,E1 l,E0 open_,G0 x.Gh,G0 x.Slot.G4,G0 x.Slot.Tier,U8 x.Slot.Half]) (Gi Gbb O O O) O (JLh (.bfn 85 [.agg [E4 s.Columns,E3 s.Covers,G0 s.Light.Kilos,G0 s.Light.X,G0 s.Light.Y,G0 s.Light.Z,E6 s.Rows,E5 s.Frames,E7 s.Tanks,G0 s.G2.Tolerance,G0 s.G2.Trim,G0 s.G2.List_,G0 s.G2.Stability,E2 boxes,E1 l,E0 open_,G0 x.Gh,G0 x.Slot.G4,G0 x.Slot.Tier,U8 x.Slot.Half]]) (H39 (cs:=[.agg [E4 s.Columns,E3 s.Covers,G0 s.Light.Kilos,G0 s.Light.X,G0 s.Light.Y,G0 s.Light.Z,E6 s.Rows,E5 s.Frames,E7 s.Tanks,G0 s.G2.Tolerance,G0 s.G2.Trim,G0 s.G2.List_,G0 s.G2.Stability,E2 boxes,E1 l,E0 open_,G0 x.Gh,G0 x.Slot.G4,G0 x.Slot.Tier,U8 x.Slot.Half]]) O O) O (JLh (.agg [.bfn 82 [.agg [E4 s.Columns,E3 s.Covers,G0 s.Light.Kilos,G0 s.Light.X,G0 s.Light.Y,G0 s.Light.Z,E6 s.Rows,E5 s.Frames,E7 s.Tanks,G0 s.G2.Tolerance,G0 s.G2.Trim,G0 s.G2.List_,G0 s.G2.Stability,E2 boxes,E1 l,E0 open_,G0 x.Gh,G0 x.Slot.G4,G0 x.Slot.Tier,U8 x.Slot.Half]],.bfn 83 [.agg [E4 s.Columns,E3 s.Covers,G0 s.Light.Kilos,G0 s.Light.X,G0 s.Light.Y,G0 s.Light.Z,E6 s.Rows,E5 s.Frames,E7 s.Tanks,G0 s.G2.Tolerance,G0 s.G2.Trim,G0 s.G2.List_,G0 s.G2.Stability,E2 boxes,E1 l,E0 open_,G0 x.Gh,G0 x.Slot.G4,G0 x.Slot.Tier,U8 x.Slot.Half]],.bfn 84 [.agg [E4 s.Columns,E3 s.Covers,G0 s.Light.Kilos,G0 s.Light.X,G0 s.Light.Y,G0 s.Light.Z,E6 s.Rows,E5 s.Frames,E7 s.Tanks,G0 s.G2.Tolerance,G0 s.G2.Trim,G0 s.G2.List_,G0 s.G2.Stability,E2 boxes,E1 l,E0 open_,G0 x.Gh,G0 x.Slot.G4,G0 x.Slot.Tier,U8 x.Slot.Half]],.bfn 85 [.agg [E4 s.Columns,E3 s.Covers,G0 s.Light.Kilos,G0 s.Light.X,G0 s.Light.Y,G0 s.Light.Z,E6 s.Rows,E5 s.Frames,E7 s.Tanks,G0 s.G2.Tolerance,G0 s.G2.Trim,G0 s.G2.List_,G0 s.G2.Stability,E2 boxes,E1 l,E0 open_,G0 x.Gh,G0 x.Slot.G4,G0 x.Slot.Tier,U8 x.Slot.Half]]]) (Hf9 (cs:=[.bfn 82 [.agg [E4 s.Columns,E3 s.Covers,G0 s.Light.Kilos,G0 s.Light.X,G0 s.Light.Y,G0 s.Light.Z,E6 s.Rows,E5 s.Frames,E7 s.Tanks,G0 s.G2.Tolerance,G0 s.G2.Trim,G0 s.G2.List_,G0 s.G2.Stability,E2 boxes,E1 l,E0 open_,G0 x.Gh,G0 x.Slot.G4,G0 x.Slot.Tier,U8 x.Slot.Half]],.bfn 83 [.agg [E4 s.Columns,E3 s.Covers,G0 s.Light.Kilos,G0 s.Light.X,G0 s.Light.Y,G0 s.Light.Z,E6 s.Rows,E5 s.Frames,E7 s.Tanks,G0 s.G2.Tolerance,G0 s.G2.Trim,G0 s.G2.List_,G0 s.G2.Stability,E2 boxes,E1 l,E0 open_,G0 x.Gh,G0 x.Slot.G4,G0 x.Slot.Tier,U8 x.Slot.Half]],.bfn 84 [.agg [E4 s.Columns,E3 s.Covers,G0 s.Light.Kilos,G0 s.Light.X,G0 s.Light.Y,G0 s.Light.Z,E6 s.Rows,E5 s.Frames,E7 s.Tanks,G0 s.G2.Tolerance,G0 s.G2.Trim,G0 s.G2.List_,G0 s.G2.Stability,E2 boxes,E1 l,E0 open_,G0 x.Gh,G0 x.Slot.G4,G0 x.Slot.Tier,U8 x.Slot.Half]],.bfn 85 [.agg [E4 s.Columns,E3 s.Covers,G0 s.Light.Kilos,G0 s.Light.X,G0 s.Light.Y,G0 s.Light.Z,E6 s.Rows,E5 s.Frames,E7 s.Tanks,G0 s.G2.Tolerance,G0 s.G2.Trim,G0 s.G2.List_,G0 s.G2.Stability,E2 boxes,E1 l,E0 open_,G0 x.Gh,G0 x.Slot.G4,G0 x.Slot.Tier,U8 x.Slot.Half]]]) [.nilFunc,.nilFunc,.nilFunc,.nilFunc] Q5b Jf2 O O) O (Yy (G0 0) O (G7 (hK19 ?_))))))))))))
     refine Gs ?_
     obtain⟨hx60,h⟩:=J2 h
     obtain⟨b60,kx60,hb60,hkx60,h⟩:=G8d h
     refine Hc (fun i60 (s60:Unit)=>upto b60 kx60 ((4:Int).toNat - i60) i60 s60=some r) (fun i60 s60=>[(14,.dptr [E4 s.Columns,E3 s.Covers,G0 s.Light.Kilos,G0 s.Light.X,G0 s.Light.Y,G0 s.Light.Z,E6 s.Rows,E5 s.Frames,E7 s.Tanks,G0 s.G2.Tolerance,G0 s.G2.Trim,G0 s.G2.List_,G0 s.G2.Stability,E2 boxes,E1 l,E0 open_,G0 x.Gh,G0 x.Slot.G4,G0 x.Slot.Tier,U8 x.Slot.Half]),(71,.agg [.bfn 82 [.agg [E4 s.Columns,E3 s.Covers,G0 s.Light.Kilos,G0 s.Light.X,G0 s.Light.Y,G0 s.Light.Z,E6 s.Rows,E5 s.Frames,E7 s.Tanks,G0 s.G2.Tolerance,G0 s.G2.Trim,G0 s.G2.List_,G0 s.G2.Stability,E2 boxes,E1 l,E0 open_,G0 x.Gh,G0 x.Slot.G4,G0 x.Slot.Tier,U8 x.Slot.Half]],.bfn 83 [.agg [E4 s.Columns,E3 s.Covers,G0 s.Light.Kilos,G0 s.Light.X,G0 s.Light.Y,G0 s.Light.Z,E6 s.Rows,E5 s.Frames,E7 s.Tanks,G0 s.G2.Tolerance,G0 s.G2.Trim,G0 s.G2.List_,G0 s.G2.Stability,E2 boxes,E1 l,E0 open_,G0 x.Gh,G0 x.Slot.G4,G0 x.Slot.Tier,U8 x.Slot.Half]],.bfn 84 [.agg [E4 s.Columns,E3 s.Covers,G0 s.Light.Kilos,G0 s.Light.X,G0 s.Light.Y,G0 s.Light.Z,E6 s.Rows,E5 s.Frames,E7 s.Tanks,G0 s.G2.Tolerance,G0 s.G2.Trim,G0 s.G2.List_,G0 s.G2.Stability,E2 boxes,E1 l,E0 open_,G0 x.Gh,G0 x.Slot.G4,G0 x.Slot.Tier,U8 x.Slot.Half]],.bfn 85 [.agg [E4 s.Columns,E3 s.Covers,G0 s.Light.Kilos,G0 s.Light.X,G0 s.Light.Y,G0 s.Light.Z,E6 s.Rows,E5 s.Frames,E7 s.Tanks,G0 s.G2.Tolerance,G0 s.G2.Trim,G0 s.G2.List_,G0 s.G2.Stability,E2 boxes,E1 l,E0 open_,G0 x.Gh,G0 x.Slot.G4,G0 x.Slot.Tier,U8 x.Slot.Half]]]),(72,Eg i60)]) (fun i60 s60=>[]) (fun i60=>(4:Int).toNat - i60) 0 () h ⟨⟨.same O,.same O,.same O,G⟩,G,O⟩ ?_
     clear h
     intro i60 s60 hi60 K60 e60
     refine Jr fun hK61=>(JLh (BL (decide ((i60:Int) < 4))) (J4 O O O) O (G7 (hK61 (Js fun hK62=>Gk O (fun hb=>?_) (fun hb=>?_)))))
     ·
      have hk60:=G48 hb
      obtain⟨nx60,hn60,h⟩:=G45 hi60 hk60
      replace h:=J15 hb60 h
      refine Gp (hK62 ?_)
      obtain⟨kj63,hkj63,h⟩:=Gbf h
      refine G73 (fun j63:Unit=>kj63 j63=some r) (fun j63=>[(14,.dptr [E4 s.Columns,E3 s.Covers,G0 s.Light.Kilos,G0 s.Light.X,G0 s.Light.Y,G0 s.Light.Z,E6 s.Rows,E5 s.Frames,E7 s.Tanks,G0 s.G2.Tolerance,G0 s.G2.Trim,G0 s.G2.List_,G0 s.G2.Stability,E2 boxes,E1 l,E0 open_,G0 x.Gh,G0 x.Slot.G4,G0 x.Slot.Tier,U8 x.Slot.Half]),(71,.agg [.bfn 82 [.agg [E4 s.Columns,E3 s.Covers,G0 s.Light.Kilos,G0 s.Light.X,G0 s.Light.Y,G0 s.Light.Z,E6 s.Rows,E5 s.Frames,E7 s.Tanks,G0 s.G2.Tolerance,G0 s.G2.Trim,G0 s.G2.List_,G0 s.G2.Stability,E2 boxes,E1 l,E0 open_,G0 x.Gh,G0 x.Slot.G4,G0 x.Slot.Tier,U8 x.Slot.Half]],.bfn 83 [.agg [E4 s.Columns,E3 s.Covers,G0 s.Light.Kilos,G0 s.Light.X,G0 s.Light.Y,G0 s.Light.Z,E6 s.Rows,E5 s.Frames,E7 s.Tanks,G0 s.G2.Tolerance,G0 s.G2.Trim,G0 s.G2.List_,G0 s.G2.Stability,E2 boxes,E1 l,E0 open_,G0 x.Gh,G0 x.Slot.G4,G0 x.Slot.Tier,U8 x.Slot.Half]],.bfn 84 [.agg [E4 s.Columns,E3 s.Covers,G0 s.Light.Kilos,G0 s.Light.X,G0 s.Light.Y,G0 s.Light.Z,E6 s.Rows,E5 s.Frames,E7 s.Tanks,G0 s.G2.Tolerance,G0 s.G2.Trim,G0 s.G2.List_,G0 s.G2.Stability,E2 boxes,E1 l,E0 open_,G0 x.Gh,G0 x.Slot.G4,G0 x.Slot.Tier,U8 x.Slot.Half]],.bfn 85 [.agg [E4 s.Columns,E3 s.Covers,G0 s.Light.Kilos,G0 s.Light.X,G0 s.Light.Y,G0 s.Light.Z,E6 s.Rows,E5 s.Frames,E7 s.Tanks,G0 s.G2.Tolerance,G0 s.G2.Trim,G0 s.G2.List_,G0 s.G2.Stability,E2 boxes,E1 l,E0 open_,G0 x.Gh,G0 x.Slot.G4,G0 x.Slot.Tier,U8 x.Slot.Half]]]),(72,Eg i60)]) (fun j63=>[]) (fun Kj63 ej63=>?_) ?_
      ·
       refine Gs (Jr fun hK64=>(Yy (Eg i60) O ((Decidable.em ((i60:Int)=0)).elim (fun hq65_0=>?_) (fun hq65_0=>?_))))
       ·
        replace h:=Gx (decide_eq_true hq65_0) h
        refine JLh (.bfn 82 [.agg [E4 s.Columns,E3 s.Covers,G0 s.Light.Kilos,G0 s.Light.X,G0 s.Light.Y,G0 s.Light.Z,E6 s.Rows,E5 s.Frames,E7 s.Tanks,G0 s.G2.Tolerance,G0 s.G2.Trim,G0 s.G2.List_,G0 s.G2.Stability,E2 boxes,E1 l,E0 open_,G0 x.Gh,G0 x.Slot.G4,G0 x.Slot.Tier,U8 x.Slot.Half]]) (Hc3 (j:=0) H67 O O O hq65_0 O O) O (Yy (Eg i60) O (Yy (.bfn 82 [.agg [E4 s.Columns,E3 s.Covers,G0 s.Light.Kilos,G0 s.Light.X,G0 s.Light.Y,G0 s.Light.Z,E6 s.Rows,E5 s.Frames,E7 s.Tanks,G0 s.G2.Tolerance,G0 s.G2.Trim,G0 s.G2.List_,G0 s.G2.Stability,E2 boxes,E1 l,E0 open_,G0 x.Gh,G0 x.Slot.G4,G0 x.Slot.Tier,U8 x.Slot.Half]]) O (G7 (hK64 ?_))))
        refine Jr fun hK66=>(Yy (.bfn 82 [.agg [E4 s.Columns,E3 s.Covers,G0 s.Light.Kilos,G0 s.Light.X,G0 s.Light.Y,G0 s.Light.Z,E6 s.Rows,E5 s.Frames,E7 s.Tanks,G0 s.G2.Tolerance,G0 s.G2.Trim,G0 s.G2.List_,G0 s.G2.Stability,E2 boxes,E1 l,E0 open_,G0 x.Gh,G0 x.Slot.G4,G0 x.Slot.Tier,U8 x.Slot.Half]]) O ?_)
        obtain⟨r67,hr67,h⟩:=Ge h
        refine JLh (BL r67) (Hc4 (args:=[]) (firsts:=[.agg [E4 s.Columns,E3 s.Covers,G0 s.Light.Kilos,G0 s.Light.X,G0 s.Light.Y,G0 s.Light.Z,E6 s.Rows,E5 s.Frames,E7 s.Tanks,G0 s.G2.Tolerance,G0 s.G2.Trim,G0 s.G2.List_,G0 s.G2.Stability,E2 boxes,E1 l,E0 open_,G0 x.Gh,G0 x.Slot.G4,G0 x.Slot.Tier,U8 x.Slot.Half]]) O O (H80 (Hz.mk s boxes l open_ x) r67 hr67) Q3a G O) O (G7 (hK66 (JCc O h (fun h hb=>?_) (fun h hb=>?_))))
        ·
         refine Jr fun hK68=>(Yy (Eg i60) O ?_)
         obtain⟨v69,hv69,h⟩:=Qq h
         refine JLh (G0 v69) (Hs hv69 O O O) O (JLh (E1 ([]:List Stowed)) (Hy 4 O O) O (Yy (G0 v69) O (G7 (hK68 (Gr (⟨[E1 ([]:List Stowed),G0 v69],[],G,O,⟨⟨_,O,.conv (.same O)⟩,⟨_,O,.conv (.same O)⟩,G⟩,O,congrArg (fun r:(List Stowed)×Int=>(.tup [E1 r.1,G0 r.2]:AV)) (Option.some.inj h)⟩))))))
        ·
         refine Gp (ej63 _ _ () h ⟨⟨.same O,.same O,.same O,G⟩,G,O⟩)
       ·
        replace h:=Hk (decide_eq_false hq65_0) h
        refine(Decidable.em ((i60:Int)=1)).elim (fun hq65_1=>?_) (fun hq65_1=>?_)
        ·
         replace h:=Gx (decide_eq_true hq65_1) h
         refine JLh (.bfn 83 [.agg [E4 s.Columns,E3 s.Covers,G0 s.Light.Kilos,G0 s.Light.X,G0 s.Light.Y,G0 s.Light.Z,E6 s.Rows,E5 s.Frames,E7 s.Tanks,G0 s.G2.Tolerance,G0 s.G2.Trim,G0 s.G2.List_,G0 s.G2.Stability,E2 boxes,E1 l,E0 open_,G0 x.Gh,G0 x.Slot.G4,G0 x.Slot.Tier,U8 x.Slot.Half]]) (Hc3 (j:=1) H67 O O O hq65_1 O O) O (Yy (Eg i60) O (Yy (.bfn 83 [.agg [E4 s.Columns,E3 s.Covers,G0 s.Light.Kilos,G0 s.Light.X,G0 s.Light.Y,G0 s.Light.Z,E6 s.Rows,E5 s.Frames,E7 s.Tanks,G0 s.G2.Tolerance,G0 s.G2.Trim,G0 s.G2.List_,G0 s.G2.Stability,E2 boxes,E1 l,E0 open_,G0 x.Gh,G0 x.Slot.G4,G0 x.Slot.Tier,U8 x.Slot.Half]]) O (G7 (hK64 ?_))))
         refine Jr fun hK70=>(Yy (.bfn 83 [.agg [E4 s.Columns,E3 s.Covers,G0 s.Light.Kilos,G0 s.Light.X,G0 s.Light.Y,G0 s.Light.Z,E6 s.Rows,E5 s.Frames,E7 s.Tanks,G0 s.G2.Tolerance,G0 s.G2.Trim,G0 s.G2.List_,G0 s.G2.Stability,E2 boxes,E1 l,E0 open_,G0 x.Gh,G0 x.Slot.G4,G0 x.Slot.Tier,U8 x.Slot.Half]]) O ?_)
         obtain⟨r71,hr71,h⟩:=Ge h
         refine JLh (BL r71) (Hc4 (args:=[]) (firsts:=[.agg [E4 s.Columns,E3 s.Covers,G0 s.Light.Kilos,G0 s.Light.X,G0 s.Light.Y,G0 s.Light.Z,E6 s.Rows,E5 s.Frames,E7 s.Tanks,G0 s.G2.Tolerance,G0 s.G2.Trim,G0 s.G2.List_,G0 s.G2.Stability,E2 boxes,E1 l,E0 open_,G0 x.Gh,G0 x.Slot.G4,G0 x.Slot.Tier,U8 x.Slot.Half]]) O O (Hac (Hz.mk s boxes l open_ x) r71 hr71) Q39 G O) O (G7 (hK70 (JCc O h (fun h hb=>?_) (fun h hb=>?_))))
         ·
          refine Jr fun hK72=>(Yy (Eg i60) O ?_)
          obtain⟨v73,hv73,h⟩:=Qq h
          refine JLh (G0 v73) (Hs hv73 O O O) O (JLh (E1 ([]:List Stowed)) (Hy 4 O O) O (Yy (G0 v73) O (G7 (hK72 (Gr (⟨[E1 ([]:List Stowed),G0 v73],[],G,O,⟨⟨_,O,.conv (.same O)⟩,⟨_,O,.conv (.same O)⟩,G⟩,O,congrArg (fun r:(List Stowed)×Int=>(.tup [E1 r.1,G0 r.2]:AV)) (Option.some.inj h)⟩))))))
         ·
          refine Gp (ej63 _ _ () h ⟨⟨.same O,.same O,.same O,G⟩,G,O⟩)
        ·
         replace h:=Hk (decide_eq_false hq65_1) h
         refine(Decidable.em ((i60:Int)=2)).elim (fun hq65_2=>?_) (fun hq65_2=>?_)
         ·
          replace h:=Gx (decide_eq_true hq65_2) h
          refine JLh (.bfn 84 [.agg [E4 s.Columns,E3 s.Covers,G0 s.Light.Kilos,G0 s.Light.X,G0 s.Light.Y,G0 s.Light.Z,E6 s.Rows,E5 s.Frames,E7 s.Tanks,G0 s.G2.Tolerance,G0 s.G2.Trim,G0 s.G2.List_,G0 s.G2.Stability,E2 boxes,E1 l,E0 open_,G0 x.Gh,G0 x.Slot.G4,G0 x.Slot.Tier,U8 x.Slot.Half]]) (Hc3 (j:=2) H67 O O O hq65_2 O O) O (Yy (Eg i60) O (Yy (.bfn 84 [.agg [E4 s.Columns,E3 s.Covers,G0 s.Light.Kilos,G0 s.Light.X,G0 s.Light.Y,G0 s.Light.Z,E6 s.Rows,E5 s.Frames,E7 s.Tanks,G0 s.G2.Tolerance,G0 s.G2.Trim,G0 s.G2.List_,G0 s.G2.Stability,E2 boxes,E1 l,E0 open_,G0 x.Gh,G0 x.Slot.G4,G0 x.Slot.Tier,U8 x.Slot.Half]]) O (G7 (hK64 ?_))))
          refine Jr fun hK74=>(Yy (.bfn 84 [.agg [E4 s.Columns,E3 s.Covers,G0 s.Light.Kilos,G0 s.Light.X,G0 s.Light.Y,G0 s.Light.Z,E6 s.Rows,E5 s.Frames,E7 s.Tanks,G0 s.G2.Tolerance,G0 s.G2.Trim,G0 s.G2.List_,G0 s.G2.Stability,E2 boxes,E1 l,E0 open_,G0 x.Gh,G0 x.Slot.G4,G0 x.Slot.Tier,U8 x.Slot.Half]]) O ?_)
          obtain⟨r75,hr75,h⟩:=Ge h
          refine JLh (BL r75) (Hc4 (args:=[]) (firsts:=[.agg [E4 s.Columns,E3 s.Covers,G0 s.Light.Kilos,G0 s.Light.X,G0 s.Light.Y,G0 s.Light.Z,E6 s.Rows,E5 s.Frames,E7 s.Tanks,G0 s.G2.Tolerance,G0 s.G2.Trim,G0 s.G2.List_,G0 s.G2.Stability,E2 boxes,E1 l,E0 open_,G0 x.Gh,G0 x.Slot.G4,G0 x.Slot.Tier,U8 x.Slot.Half]]) O O (H78 (Hz.mk s boxes l open_ x) r75 hr75) Q38 G O) O (G7 (hK74 (JCc O h (fun h hb=>?_) (fun h hb=>?_))))
          ·
           refine Jr fun hK76=>(Yy (Eg i60) O ?_)
           obtain⟨v77,hv77,h⟩:=Qq h
           refine JLh (G0 v77) (Hs hv77 O O O) O (JLh (E1 ([]:List Stowed)) (Hy 4 O O) O (Yy (G0 v77) O (G7 (hK76 (Gr (⟨[E1 ([]:List Stowed),G0 v77],[],G,O,⟨⟨_,O,.conv (.same O)⟩,⟨_,O,.conv (.same O)⟩,G⟩,O,congrArg (fun r:(List Stowed)×Int=>(.tup [E1 r.1,G0 r.2]:AV)) (Option.some.inj h)⟩))))))
          ·
           refine Gp (ej63 _ _ () h ⟨⟨.same O,.same O,.same O,G⟩,G,O⟩)
         ·
          replace h:=Hk (decide_eq_false hq65_2) h
          refine(Decidable.em ((i60:Int)=3)).elim (fun hq65_3=>?_) (fun hq65_3=>?_)
          ·
           replace h:=Gx (decide_eq_true hq65_3) h
           refine JLh (.bfn 85 [.agg [E4 s.Columns,E3 s.Covers,G0 s.Light.Kilos,G0 s.Light.X,G0 s.Light.Y,G0 s.Light.Z,E6 s.Rows,E5 s.Frames,E7 s.Tanks,G0 s.G2.Tolerance,G0 s.G2.Trim,G0 s.G2.List_,G0 s.G2.Stability,E2 boxes,E1 l,E0 open_,G0 x.Gh,G0 x.Slot.G4,G0 x.Slot.Tier,U8 x.Slot.Half]]) (Hc3 (j:=3) H67 O O O hq65_3 O O) O (Yy (Eg i60) O (Yy (.bfn 85 [.agg [E4 s.Columns,E3 s.Covers,G0 s.Light.Kilos,G0 s.Light.X,G0 s.Light.Y,G0 s.Light.Z,E6 s.Rows,E5 s.Frames,E7 s.Tanks,G0 s.G2.Tolerance,G0 s.G2.Trim,G0 s.G2.List_,G0 s.G2.Stability,E2 boxes,E1 l,E0 open_,G0 x.Gh,G0 x.Slot.G4,G0 x.Slot.Tier,U8 x.Slot.Half]]) O (G7 (hK64 ?_))))
           refine Jr fun hK78=>(Yy (.bfn 85 [.agg [E4 s.Columns,E3 s.Covers,G0 s.Light.Kilos,G0 s.Light.X,G0 s.Light.Y,G0 s.Light.Z,E6 s.Rows,E5 s.Frames,E7 s.Tanks,G0 s.G2.Tolerance,G0 s.G2.Trim,G0 s.G2.List_,G0 s.G2.Stability,E2 boxes,E1 l,E0 open_,G0 x.Gh,G0 x.Slot.G4,G0 x.Slot.Tier,U8 x.Slot.Half]]) O ?_)
           obtain⟨r79,hr79,h⟩:=Ge h
           refine JLh (BL r79) (Hc4 (args:=[]) (firsts:=[.agg [E4 s.Columns,E3 s.Covers,G0 s.Light.Kilos,G0 s.Light.X,G0 s.Light.Y,G0 s.Light.Z,E6 s.Rows,E5 s.Frames,E7 s.Tanks,G0 s.G2.Tolerance,G0 s.G2.Trim,G0 s.G2.List_,G0 s.G2.Stability,E2 boxes,E1 l,E0 open_,G0 x.Gh,G0 x.Slot.G4,G0 x.Slot.Tier,U8 x.Slot.Half]]) O O (H81 F (Hz.mk s boxes l open_ x) r79 hr79) Q37 G O) O (G7 (hK78 (JCc O h (fun h hb=>?_) (fun h hb=>?_))))
           ·
            refine Jr fun hK80=>(Yy (Eg i60) O ?_)
            obtain⟨v81,hv81,h⟩:=Qq h
            refine JLh (G0 v81) (Hs hv81 O O O) O (JLh (E1 ([]:List Stowed)) (Hy 4 O O) O (Yy (G0 v81) O (G7 (hK80 (Gr (⟨[E1 ([]:List Stowed),G0 v81],[],G,O,⟨⟨_,O,.conv (.same O)⟩,⟨_,O,.conv (.same O)⟩,G⟩,O,congrArg (fun r:(List Stowed)×Int=>(.tup [E1 r.1,G0 r.2]:AV)) (Option.some.inj h)⟩))))))
           ·
            refine Gp (ej63 _ _ () h ⟨⟨.same O,.same O,.same O,G⟩,G,O⟩)
          ·
           replace h:=Hk (decide_eq_false hq65_3) h
           cases h
      ·intro j63 h
       replace h:=app1 hkj63 h
       refine G3 (JLh (G0 ((i60+1:Nat):Int)) (Hs (He hk60 (G23 hx60)) O O O) O (Yy (G0 ((i60+1:Nat):Int)) O (G7 (e60 _ _ (i60+1) () (app1 hn60 h) (by omega) ⟨⟨.same rfl,.same rfl,.same rfl,G⟩,G,rfl⟩))))
     ·
      have h:=app1 hkx60 (G46 hi60 (Yf hb))
      refine Hi (hK18 (Jr fun hK82=>(JLh (.agg [E4 s.Columns,E3 s.Covers,G0 s.Light.Kilos,G0 s.Light.X,G0 s.Light.Y,G0 s.Light.Z,E6 s.Rows,E5 s.Frames,E7 s.Tanks,G0 s.G2.Tolerance,G0 s.G2.Trim,G0 s.G2.List_,G0 s.G2.Stability,E2 boxes,E1 l,E0 open_,G0 x.Gh,G0 x.Slot.G4,G0 x.Slot.Tier,U8 x.Slot.Half]) (Gi Gbb O O O) O ?_)))
      obtain⟨r83,hr83,h⟩:=Ge h
      refine JLh (E1 r83) (Gn O (G99 F (Hz.mk s boxes l open_ x) r83 hr83) J8d ⟨O,O,G⟩) O (Yy (E1 r83) O (Yy (G0 0) O (G7 (hK82 (Gr (⟨[E1 r83,G0 0],[],G,O,⟨⟨_,O,.conv (.same O)⟩,⟨_,O,.conv (.same O)⟩,G⟩,O,congrArg (fun r:(List Stowed)×Int=>(.tup [E1 r.1,G0 r.2]:AV)) (Option.some.inj h)⟩))))))

def Gd1 (s:H4) (boxes:List Gh) (l:List Stowed) (open_:List Int) (id_:Int):Option Int:=
 bnd (Ze s boxes l open_) fun r4=>
 bif (!r4) then
 (some 2)
 else
 (bnd (G42 l id_) fun r7=>
  bif decide (r7.2≠0) then
  (some r7.2)
  else
  (bif decide (0 < (r7.1.length:Int)) then
   (some 90)
   else
   (bnd (G16 l id_) fun r15=>
    Qm l r15 fun y16=>
    bnd (G6f s y16.Slot.G4) fun r18=>
    bnd (bif decide (0≤r18) then Rc open_ r18 else some default) fun r20=>
    bif ((decide (0≤r18))&&(!r20)) then
    (some 91)
    else
    (some 0))))
theorem H45 (s:H4) (boxes:List Gh) (l:List Stowed) (open_:List Int) (id_:Int) (r:Int) (h:Gd1 s boxes l open_ id_=some r):Pure Eh 30 [.agg (H4.cs s),E2 boxes,E1 l,E0 open_,G0 id_] (·=G0 r):=by
 unfold Gd1 at h
 refine Gy [.tmp 10] Tryz.func30 O O (Jr fun hK1=>(JLh (.ptr 1045 0) (Ji (cs:=(H4.cs s)) 1045 O O O O O) O (Yy (G0 0) O (G7 (hK1 (Gz [(1,E2 boxes),(2,E1 l),(3,E0 open_),(4,G0 id_),(5,Ea s)] [] 1045 rfl rfl rfl G rfl (by repeat' (first | exact .ptr | constructor)) ?_))))))
 refine Js fun hK2=>Jr fun hK3=>(JLh (.agg (H4.cs s)) (Gi Hu O O O) O (Yy (E2 boxes) O (Yy (E1 l) O (Yy (E0 open_) O ?_))))
 obtain⟨r4,hr4,h⟩:=Ge h
 refine JLh (BL r4) (Gn O (G70 s boxes l open_ r4 hr4) H62 ⟨O,O,O,O,O,O,O,O,G⟩) O (JLh (BL (!r4)) (R5 (b:=r4) O O) O (G7 (hK3 (JCc O h (fun h hb=>?_) (fun h hb=>?_)))))
 ·
  refine Jr fun hK5=>(Yy (G0 2) O (G7 (hK5 (Gr (fin1 G0 h)))))
 ·
  refine Gp (hK2 (Jr fun hK6=>(Yy (E1 l) O (Yy (G0 id_) O ?_))))
  obtain⟨r7,hr7,h⟩:=Ge h
  refine JLh (.tup [E0 r7.1,G0 r7.2]) (Gn O (H17 l id_ r7 hr7) He2 ⟨O,O,O,O,G⟩) O (Yy (.tup [E0 r7.1,G0 r7.2]) O (JLh (E0 r7.1) (Hv O O O) O (JLh (G0 r7.2) (Hv O O O) O (Yy (E0 r7.1) O (Yy (G0 r7.2) O (G7 (hK6 (Js fun hK8=>Gs (Jr fun hK9=>(Yy (G0 r7.2) O (JLh (BL (decide (r7.2≠0))) (G3d O O O) O (Yy (BL (decide (r7.2≠0))) O (G7 (hK9 (JCc O h (fun h hb=>?_) (fun h hb=>?_))))))))))))))))
  ·
   refine Jr fun hK10=>(Yy (G0 r7.2) O (Yy (G0 r7.2) O (G7 (hK10 (Gr (fin1 G0 h))))))
  ·
   refine Jr fun hK11=>(Yy (E0 r7.1) O (JLl Gu O O O fun hm32=>(JLh (BL (decide (0 < (r7.1.length:Int)))) (G2c O O O) O (Yy (BL (decide (0 < (r7.1.length:Int)))) O (G7 (hK11 (JCc O h (fun h hb=>?_) (fun h hb=>?_))))))))
   ·
    refine Jr fun hK12=>(Yy (G0 90) O (G7 (hK12 (Gr (fin1 G0 h)))))
   ·
    refine Gp (hK8 (Js fun hK13=>Js fun hK14=>?_))
    obtain⟨r15,hr15,h⟩:=Ge h
    obtain⟨m17,y16,hm17,hy16,h⟩:=Qx h
    obtain⟨r18,hr18,h⟩:=Ge h
    refine JC_d0 J8 (by kernel_rfl) (Dq (.agg (H4.cs s)) (Gi Hu O O O) O (Dq (E1 l) (G5 O O) O (Dq (E1 l) (G5 O O) O (Dq (G0 id_) (G5 O O) O (Dq (G0 r15) (Gn (args:=[E1 l,G0 id_]) O (G86 l id_ r15 hr15) Gfe ⟨O,O,O,O,G⟩) O (Dq (Eb y16) (Gv (f:=Stowed.av) (xs:=l) (y:=y16) O O O H0 hy16 hm17) O (Dq (.dptr ((Stowed.cs y16).drop 1)) (Ga Ht O O O) O (Dq (.dptr ((Stowed.cs y16).drop 1)) (Ga J6 O O O) O (Dq (G0 y16.Slot.G4) (Gg Gd O O O) O (Dq (G0 r18) (Gn (args:=[.agg (H4.cs s),G0 y16.Slot.G4]) O (Had s y16.Slot.G4 r18 hr18) J8f ⟨O,O,O,O,G⟩) O (Dq (G0 r18) (G8 O O) O (Dnil ?_))))))))))))
    refine hK14 (Jr fun hK19=>(Yy (G0 r18) O (JLh (BL (decide (0≤r18))) (G17 O O O) O (Yy (BL (decide (0≤r18))) O (JLo (E0 open_) [] O .sct G (fun hc=>G5 O O) O (JLo (G0 r18) [] O .sct G (fun hc=>G5 O O) O ?_))))))
    obtain⟨r20,hr20,h⟩:=Ge h
    refine JLo (BL r20) [47,48] O .sct ⟨Ua,Ua,G⟩ (fun hc=>Gn (args:=[E0 open_,G0 r18]) O (G39 open_ r18 r20 (Gx hc hr20)) Hde ⟨O,O,O,O,G⟩) O (JLo (BL (!r20)) [49] O .sct ⟨Ua,G⟩ (fun hc=>R5 (b:=r20) O O) O (JLh (BL ((decide (0≤r18))&&(!r20))) (Hx O O O O) O (G7 (hK19 (JCc O h (fun h hb=>?_) (fun h hb=>?_))))))
    ·
     refine Jr fun hK21=>(Yy (G0 91) O (G7 (hK21 (Gr (fin1 G0 h)))))
    ·
     refine Gp (hK13 (Jr fun hK22=>(Yy (G0 0) O (G7 (hK22 (Gr (fin1 G0 h)))))))

def Rv (F:Nat) :Option Bool:=
 bnd (G2f) fun r3=>
 bnd (Qs 1 0 0 0) fun r6=>
 bnd (Qs 2 0 1 0) fun r7=>
 bnd (Qs 3 2 1 0) fun r8=>
 bnd (Qs 6 2 0 1) fun r9=>
 bnd (Qs 7 2 0 2) fun r10=>
 bnd (G0f F r3 [(Gh.mk 1 ByteArray.empty 40 false 0 0 0 0 false),(Gh.mk 2 ByteArray.empty 40 false 0 0 0 0 false),(Gh.mk 3 ByteArray.empty 40 false 0 0 0 0 false),(Gh.mk 4 ByteArray.empty 40 false 0 0 0 0 false),(Gh.mk 5 ByteArray.empty 40 false 0 0 0 0 false),(Gh.mk 6 ByteArray.empty 20 false 0 0 0 0 false),(Gh.mk 7 ByteArray.empty 20 false 0 0 0 0 false)] [r6,r7,r8,r9,r10] [1]) fun r12=>
 bnd (G0f F r3 [(Gh.mk 1 ByteArray.empty 40 false 0 0 0 0 false),(Gh.mk 2 ByteArray.empty 40 false 0 0 0 0 false),(Gh.mk 3 ByteArray.empty 40 false 0 0 0 0 false),(Gh.mk 4 ByteArray.empty 40 false 0 0 0 0 false),(Gh.mk 5 ByteArray.empty 40 false 0 0 0 0 false),(Gh.mk 6 ByteArray.empty 20 false 0 0 0 0 false),(Gh.mk 7 ByteArray.empty 20 false 0 0 0 0 false)] [r6,r7,r8,r9,r10] [2]) fun r14=>
 bnd (G0f F r3 [(Gh.mk 1 ByteArray.empty 40 false 0 0 0 0 false),(Gh.mk 2 ByteArray.empty 40 false 0 0 0 0 false),(Gh.mk 3 ByteArray.empty 40 false 0 0 0 0 false),(Gh.mk 4 ByteArray.empty 40 false 0 0 0 0 false),(Gh.mk 5 ByteArray.empty 40 false 0 0 0 0 false),(Gh.mk 6 ByteArray.empty 20 false 0 0 0 0 false),(Gh.mk 7 ByteArray.empty 20 false 0 0 0 0 false)] [r6,r7,r8,r9,r10] [7]) fun r16=>
 bnd (Hae F r3 [(Gh.mk 1 ByteArray.empty 40 false 0 0 0 0 false),(Gh.mk 2 ByteArray.empty 40 false 0 0 0 0 false),(Gh.mk 3 ByteArray.empty 40 false 0 0 0 0 false),(Gh.mk 4 ByteArray.empty 40 false 0 0 0 0 false),(Gh.mk 5 ByteArray.empty 40 false 0 0 0 0 false),(Gh.mk 6 ByteArray.empty 20 false 0 0 0 0 false),(Gh.mk 7 ByteArray.empty 20 false 0 0 0 0 false)] [r6,r7,r8,r9,r10] [] 0) fun r18=>
 bnd (Qs 4 2 2 0) fun r20=>
 bnd (H79 F r3 [(Gh.mk 1 ByteArray.empty 40 false 0 0 0 0 false),(Gh.mk 2 ByteArray.empty 40 false 0 0 0 0 false),(Gh.mk 3 ByteArray.empty 40 false 0 0 0 0 false),(Gh.mk 4 ByteArray.empty 40 false 0 0 0 0 false),(Gh.mk 5 ByteArray.empty 40 false 0 0 0 0 false),(Gh.mk 6 ByteArray.empty 20 false 0 0 0 0 false),(Gh.mk 7 ByteArray.empty 20 false 0 0 0 0 false)] [r6,r7,r8,r9,r10] [] r20) fun r21=>
 bnd (Qs 5 3 1 0) fun r23=>
 bnd (H79 F r3 [(Gh.mk 1 ByteArray.empty 40 false 0 0 0 0 false),(Gh.mk 2 ByteArray.empty 40 false 0 0 0 0 false),(Gh.mk 3 ByteArray.empty 40 false 0 0 0 0 false),(Gh.mk 4 ByteArray.empty 40 false 0 0 0 0 false),(Gh.mk 5 ByteArray.empty 40 false 0 0 0 0 false),(Gh.mk 6 ByteArray.empty 20 false 0 0 0 0 false),(Gh.mk 7 ByteArray.empty 20 false 0 0 0 0 false)] [r6,r7,r8,r9,r10] [] r23) fun r24=>
 bnd (G12 r3 [(Gh.mk 1 ByteArray.empty 40 false 0 0 0 0 false),(Gh.mk 2 ByteArray.empty 40 false 0 0 0 0 false),(Gh.mk 3 ByteArray.empty 40 false 0 0 0 0 false),(Gh.mk 4 ByteArray.empty 40 false 0 0 0 0 false),(Gh.mk 5 ByteArray.empty 40 false 0 0 0 0 false),(Gh.mk 6 ByteArray.empty 20 false 0 0 0 0 false),(Gh.mk 7 ByteArray.empty 20 false 0 0 0 0 false)] [r6,r7,r8,r9,r10]) fun r26=>
 bnd (bif r26 then G1f (r12.2+r14.2) some else some 0) fun v27=>
 bnd (bif r26 then G1f (v27+r16.2) some else some 0) fun v28=>
 bnd (bif r26 then G1f (v28+r21.2) some else some 0) fun v29=>
 bnd (bif (r26&&(decide (v29=0))) then Jc r12.1 [1,2,3,6,7] else some default) fun r30=>
 bnd (bif ((r26&&(decide (v29=0)))&&r30) then Jc r14.1 [2,3,6,7] else some default) fun r31=>
 bnd (bif (((r26&&(decide (v29=0)))&&r30)&&r31) then Jc r16.1 [3,7] else some default) fun r32=>
 bnd (bif (((((((r26&&(decide (v29=0)))&&r30)&&r31)&&r32)&&(decide (r18.2=95)))&&(decide ((r21.1.length:Int)=6)))&&(decide (r24.2=93))) then Gd1 r3 [(Gh.mk 1 ByteArray.empty 40 false 0 0 0 0 false),(Gh.mk 2 ByteArray.empty 40 false 0 0 0 0 false),(Gh.mk 3 ByteArray.empty 40 false 0 0 0 0 false),(Gh.mk 4 ByteArray.empty 40 false 0 0 0 0 false),(Gh.mk 5 ByteArray.empty 40 false 0 0 0 0 false),(Gh.mk 6 ByteArray.empty 20 false 0 0 0 0 false),(Gh.mk 7 ByteArray.empty 20 false 0 0 0 0 false)] [r6,r7,r8,r9,r10] [] 2 else some default) fun r33=>
 bnd (bif ((((((((r26&&(decide (v29=0)))&&r30)&&r31)&&r32)&&(decide (r18.2=95)))&&(decide ((r21.1.length:Int)=6)))&&(decide (r24.2=93)))&&(decide (r33=91))) then Gd1 r3 [(Gh.mk 1 ByteArray.empty 40 false 0 0 0 0 false),(Gh.mk 2 ByteArray.empty 40 false 0 0 0 0 false),(Gh.mk 3 ByteArray.empty 40 false 0 0 0 0 false),(Gh.mk 4 ByteArray.empty 40 false 0 0 0 0 false),(Gh.mk 5 ByteArray.empty 40 false 0 0 0 0 false),(Gh.mk 6 ByteArray.empty 20 false 0 0 0 0 false),(Gh.mk 7 ByteArray.empty 20 false 0 0 0 0 false)] [r6,r7,r8,r9,r10] [] 6 else some default) fun r34=>
 bnd (bif (((((((((r26&&(decide (v29=0)))&&r30)&&r31)&&r32)&&(decide (r18.2=95)))&&(decide ((r21.1.length:Int)=6)))&&(decide (r24.2=93)))&&(decide (r33=91)))&&(decide (r34=90))) then Gd1 r3 [(Gh.mk 1 ByteArray.empty 40 false 0 0 0 0 false),(Gh.mk 2 ByteArray.empty 40 false 0 0 0 0 false),(Gh.mk 3 ByteArray.empty 40 false 0 0 0 0 false),(Gh.mk 4 ByteArray.empty 40 false 0 0 0 0 false),(Gh.mk 5 ByteArray.empty 40 false 0 0 0 0 false),(Gh.mk 6 ByteArray.empty 20 false 0 0 0 0 false),(Gh.mk 7 ByteArray.empty 20 false 0 0 0 0 false)] [r6,r7,r8,r9,r10] [] 3 else some default) fun r35=>
 some ((((((((((r26&&(decide (v29=0)))&&r30)&&r31)&&r32)&&(decide (r18.2=95)))&&(decide ((r21.1.length:Int)=6)))&&(decide (r24.2=93)))&&(decide (r33=91)))&&(decide (r34=90)))&&(decide (r35=0)))
theorem G83 (F:Nat)  (r:Bool) (h:Rv F =some r):Pure Eh 6 [] (·=BL r):=by
 unfold Rv at h
 refine Gy [.tmp 0] Tryz.func6 O O (Jr fun hK1=>(Yy (BL false) O (G7 (hK1 (Jr fun hK2=>?_)))))
 obtain⟨r3,hr3,h⟩:=Ge h
 refine JLh (.agg (H4.cs r3)) (Gn O (H0e  r3 hr3) Q54 G) O (JLh (.ptr 1008 0) (Qf 1008 13 J3c O O) O (Jk (u:=.junk) (Jb (u:=.agg (H4.cs r3)) (ds:=(H4.cs r3)) H60 O O O O O O O O) (G7 (hK2 (Gz [(1,Ea r3)] [] 1008 rfl rfl rfl G rfl (by exact⟨.ptr,G⟩) ?_)))))
 refine Jr fun hK4=>(JLh (.agg [G0 1,ST ByteArray.empty,U8 40,BL false,G0 0,G0 0,G0 0,U8 0,BL false]) (Jq (cs:=[G0 1,ST ByteArray.empty,U8 40,BL false,G0 0,G0 0,G0 0,U8 0,BL false]) [(0,1),(1,1),(2,1),(3,1),(4,1),(5,1),(6,1),(7,1),(8,1)] [G0 0,ST ByteArray.empty,U8 0,BL false,G0 0,G0 0,G0 0,U8 0,BL false] [.int .i64 0,.string ByteArray.empty,.int .u8 0,.bool false,.int .i64 0,.int .i64 0,.int .i64 0,.int .u8 0,.bool false] Zr Zp ⟨.inl O,.inl O,.inl O,.inl O,.inl O,.inl O,.inl O,.inl O,.inl O,G⟩ O O) O (JLh (.agg [G0 2,ST ByteArray.empty,U8 40,BL false,G0 0,G0 0,G0 0,U8 0,BL false]) (Jq (cs:=[G0 2,ST ByteArray.empty,U8 40,BL false,G0 0,G0 0,G0 0,U8 0,BL false]) [(0,1),(1,1),(2,1),(3,1),(4,1),(5,1),(6,1),(7,1),(8,1)] [G0 0,ST ByteArray.empty,U8 0,BL false,G0 0,G0 0,G0 0,U8 0,BL false] [.int .i64 0,.string ByteArray.empty,.int .u8 0,.bool false,.int .i64 0,.int .i64 0,.int .i64 0,.int .u8 0,.bool false] Zr Zp ⟨.inl O,.inl O,.inl O,.inl O,.inl O,.inl O,.inl O,.inl O,.inl O,G⟩ O O) O (JLh (.agg [G0 3,ST ByteArray.empty,U8 40,BL false,G0 0,G0 0,G0 0,U8 0,BL false]) (Jq (cs:=[G0 3,ST ByteArray.empty,U8 40,BL false,G0 0,G0 0,G0 0,U8 0,BL false]) [(0,1),(1,1),(2,1),(3,1),(4,1),(5,1),(6,1),(7,1),(8,1)] [G0 0,ST ByteArray.empty,U8 0,BL false,G0 0,G0 0,G0 0,U8 0,BL false] [.int .i64 0,.string ByteArray.empty,.int .u8 0,.bool false,.int .i64 0,.int .i64 0,.int .i64 0,.int .u8 0,.bool false] Zr Zp ⟨.inl O,.inl O,.inl O,.inl O,.inl O,.inl O,.inl O,.inl O,.inl O,G⟩ O O) O (JLh (.agg [G0 4,ST ByteArray.empty,U8 40,BL false,G0 0,G0 0,G0 0,U8 0,BL false]) (Jq (cs:=[G0 4,ST ByteArray.empty,U8 40,BL false,G0 0,G0 0,G0 0,U8 0,BL false]) [(0,1),(1,1),(2,1),(3,1),(4,1),(5,1),(6,1),(7,1),(8,1)] [G0 0,ST ByteArray.empty,U8 0,BL false,G0 0,G0 0,G0 0,U8 0,BL false] [.int .i64 0,.string ByteArray.empty,.int .u8 0,.bool false,.int .i64 0,.int .i64 0,.int .i64 0,.int .u8 0,.bool false] Zr Zp ⟨.inl O,.inl O,.inl O,.inl O,.inl O,.inl O,.inl O,.inl O,.inl O,G⟩ O O) O (JLh (.agg [G0 5,ST ByteArray.empty,U8 40,BL false,G0 0,G0 0,G0 0,U8 0,BL false]) (Jq (cs:=[G0 5,ST ByteArray.empty,U8 40,BL false,G0 0,G0 0,G0 0,U8 0,BL false]) [(0,1),(1,1),(2,1),(3,1),(4,1),(5,1),(6,1),(7,1),(8,1)] [G0 0,ST ByteArray.empty,U8 0,BL false,G0 0,G0 0,G0 0,U8 0,BL false] [.int .i64 0,.string ByteArray.empty,.int .u8 0,.bool false,.int .i64 0,.int .i64 0,.int .i64 0,.int .u8 0,.bool false] Zr Zp ⟨.inl O,.inl O,.inl O,.inl O,.inl O,.inl O,.inl O,.inl O,.inl O,G⟩ O O) O (JLh (.agg [G0 6,ST ByteArray.empty,U8 20,BL false,G0 0,G0 0,G0 0,U8 0,BL false]) (Jq (cs:=[G0 6,ST ByteArray.empty,U8 20,BL false,G0 0,G0 0,G0 0,U8 0,BL false]) [(0,1),(1,1),(2,1),(3,1),(4,1),(5,1),(6,1),(7,1),(8,1)] [G0 0,ST ByteArray.empty,U8 0,BL false,G0 0,G0 0,G0 0,U8 0,BL false] [.int .i64 0,.string ByteArray.empty,.int .u8 0,.bool false,.int .i64 0,.int .i64 0,.int .i64 0,.int .u8 0,.bool false] Zr Zp ⟨.inl O,.inl O,.inl O,.inl O,.inl O,.inl O,.inl O,.inl O,.inl O,G⟩ O O) O (JLh (.agg [G0 7,ST ByteArray.empty,U8 20,BL false,G0 0,G0 0,G0 0,U8 0,BL false]) (Jq (cs:=[G0 7,ST ByteArray.empty,U8 20,BL false,G0 0,G0 0,G0 0,U8 0,BL false]) [(0,1),(1,1),(2,1),(3,1),(4,1),(5,1),(6,1),(7,1),(8,1)] [G0 0,ST ByteArray.empty,U8 0,BL false,G0 0,G0 0,G0 0,U8 0,BL false] [.int .i64 0,.string ByteArray.empty,.int .u8 0,.bool false,.int .i64 0,.int .i64 0,.int .i64 0,.int .u8 0,.bool false] Zr Zp ⟨.inl O,.inl O,.inl O,.inl O,.inl O,.inl O,.inl O,.inl O,.inl O,G⟩ O O) O (JLh (E2 [(Gh.mk 1 ByteArray.empty 40 false 0 0 0 0 false),(Gh.mk 2 ByteArray.empty 40 false 0 0 0 0 false),(Gh.mk 3 ByteArray.empty 40 false 0 0 0 0 false),(Gh.mk 4 ByteArray.empty 40 false 0 0 0 0 false),(Gh.mk 5 ByteArray.empty 40 false 0 0 0 0 false),(Gh.mk 6 ByteArray.empty 20 false 0 0 0 0 false),(Gh.mk 7 ByteArray.empty 20 false 0 0 0 0 false)]) (Hn (xs:=[.agg [G0 1,ST ByteArray.empty,U8 40,BL false,G0 0,G0 0,G0 0,U8 0,BL false],.agg [G0 2,ST ByteArray.empty,U8 40,BL false,G0 0,G0 0,G0 0,U8 0,BL false],.agg [G0 3,ST ByteArray.empty,U8 40,BL false,G0 0,G0 0,G0 0,U8 0,BL false],.agg [G0 4,ST ByteArray.empty,U8 40,BL false,G0 0,G0 0,G0 0,U8 0,BL false],.agg [G0 5,ST ByteArray.empty,U8 40,BL false,G0 0,G0 0,G0 0,U8 0,BL false],.agg [G0 6,ST ByteArray.empty,U8 20,BL false,G0 0,G0 0,G0 0,U8 0,BL false],.agg [G0 7,ST ByteArray.empty,U8 20,BL false,G0 0,G0 0,G0 0,U8 0,BL false]]) O ⟨O,O,O,O,O,O,O,O,O,O,O,O,O,O,G⟩ Jm G24 O O O O) O (Yy (E2 [(Gh.mk 1 ByteArray.empty 40 false 0 0 0 0 false),(Gh.mk 2 ByteArray.empty 40 false 0 0 0 0 false),(Gh.mk 3 ByteArray.empty 40 false 0 0 0 0 false),(Gh.mk 4 ByteArray.empty 40 false 0 0 0 0 false),(Gh.mk 5 ByteArray.empty 40 false 0 0 0 0 false),(Gh.mk 6 ByteArray.empty 20 false 0 0 0 0 false),(Gh.mk 7 ByteArray.empty 20 false 0 0 0 0 false)]) O (G7 (hK4 ?_)))))))))))
 refine Jr fun hK5=>?_
 obtain⟨r6,hr6,h⟩:=Ge h
 refine JLh (.agg (Stowed.cs r6)) (Gn O (Rb 1 0 0 0 r6 hr6) G94 ⟨O,O,O,O,O,O,O,O,G⟩) O ?_
 obtain⟨r7,hr7,h⟩:=Ge h
 refine JLh (.agg (Stowed.cs r7)) (Gn O (Rb 2 0 1 0 r7 hr7) G94 ⟨O,O,O,O,O,O,O,O,G⟩) O ?_
 obtain⟨r8,hr8,h⟩:=Ge h
 refine JLh (.agg (Stowed.cs r8)) (Gn O (Rb 3 2 1 0 r8 hr8) G94 ⟨O,O,O,O,O,O,O,O,G⟩) O ?_
 obtain⟨r9,hr9,h⟩:=Ge h
 refine JLh (.agg (Stowed.cs r9)) (Gn O (Rb 6 2 0 1 r9 hr9) G94 ⟨O,O,O,O,O,O,O,O,G⟩) O ?_
 obtain⟨r10,hr10,h⟩:=Ge h
 refine JLh (.agg (Stowed.cs r10)) (Gn O (Rb 7 2 0 2 r10 hr10) G94 ⟨O,O,O,O,O,O,O,O,G⟩) O (JLh (E1 [r6,r7,r8,r9,r10]) (Hn (xs:=[.agg (Stowed.cs r6),.agg (Stowed.cs r7),.agg (Stowed.cs r8),.agg (Stowed.cs r9),.agg (Stowed.cs r10)]) O ⟨O,O,O,O,O,O,O,O,O,O,G⟩ H0 G5a O O O O) O (Yy (E1 [r6,r7,r8,r9,r10]) O (G7 (hK5 ?_))))
 refine Jr fun hK11=>(JLh (.agg (H4.cs r3)) (Gi Hu O O O) O (Yy (E2 [(Gh.mk 1 ByteArray.empty 40 false 0 0 0 0 false),(Gh.mk 2 ByteArray.empty 40 false 0 0 0 0 false),(Gh.mk 3 ByteArray.empty 40 false 0 0 0 0 false),(Gh.mk 4 ByteArray.empty 40 false 0 0 0 0 false),(Gh.mk 5 ByteArray.empty 40 false 0 0 0 0 false),(Gh.mk 6 ByteArray.empty 20 false 0 0 0 0 false),(Gh.mk 7 ByteArray.empty 20 false 0 0 0 0 false)]) O (Yy (E1 [r6,r7,r8,r9,r10]) O (JLh (E0 [1]) (Hn (xs:=[G0 1]) O ⟨O,O,G⟩ Gu Y2 O O O O) O ?_))))
 obtain⟨r12,hr12,h⟩:=Ge h
 refine JLh (.tup [E0 r12.1,G0 r12.2]) (Gn O (Gab.down F r3 [(Gh.mk 1 ByteArray.empty 40 false 0 0 0 0 false),(Gh.mk 2 ByteArray.empty 40 false 0 0 0 0 false),(Gh.mk 3 ByteArray.empty 40 false 0 0 0 0 false),(Gh.mk 4 ByteArray.empty 40 false 0 0 0 0 false),(Gh.mk 5 ByteArray.empty 40 false 0 0 0 0 false),(Gh.mk 6 ByteArray.empty 20 false 0 0 0 0 false),(Gh.mk 7 ByteArray.empty 20 false 0 0 0 0 false)] [r6,r7,r8,r9,r10] [1] r12 hr12) H64 ⟨O,O,O,O,O,O,O,O,G⟩) O (Yy (.tup [E0 r12.1,G0 r12.2]) O (JLh (E0 r12.1) (Hv O O O) O (JLh (G0 r12.2) (Hv O O O) O (Yy (E0 r12.1) O (Yy (G0 r12.2) O (G7 (hK11 ?_)))))))
 refine Jr fun hK13=>(JLh (.agg (H4.cs r3)) (Gi Hu O O O) O (Yy (E2 [(Gh.mk 1 ByteArray.empty 40 false 0 0 0 0 false),(Gh.mk 2 ByteArray.empty 40 false 0 0 0 0 false),(Gh.mk 3 ByteArray.empty 40 false 0 0 0 0 false),(Gh.mk 4 ByteArray.empty 40 false 0 0 0 0 false),(Gh.mk 5 ByteArray.empty 40 false 0 0 0 0 false),(Gh.mk 6 ByteArray.empty 20 false 0 0 0 0 false),(Gh.mk 7 ByteArray.empty 20 false 0 0 0 0 false)]) O (Yy (E1 [r6,r7,r8,r9,r10]) O (JLh (E0 [2]) (Hn (xs:=[G0 2]) O ⟨O,O,G⟩ Gu Y2 O O O O) O ?_))))
 obtain⟨r14,hr14,h⟩:=Ge h
 refine JLh (.tup [E0 r14.1,G0 r14.2]) (Gn O (Gab.down F r3 [(Gh.mk 1 ByteArray.empty 40 false 0 0 0 0 false),(Gh.mk 2 ByteArray.empty 40 false 0 0 0 0 false),(Gh.mk 3 ByteArray.empty 40 false 0 0 0 0 false),(Gh.mk 4 ByteArray.empty 40 false 0 0 0 0 false),(Gh.mk 5 ByteArray.empty 40 false 0 0 0 0 false),(Gh.mk 6 ByteArray.empty 20 false 0 0 0 0 false),(Gh.mk 7 ByteArray.empty 20 false 0 0 0 0 false)] [r6,r7,r8,r9,r10] [2] r14 hr14) H64 ⟨O,O,O,O,O,O,O,O,G⟩) O (Yy (.tup [E0 r14.1,G0 r14.2]) O (JLh (E0 r14.1) (Hv O O O) O (JLh (G0 r14.2) (Hv O O O) O (Yy (E0 r14.1) O (Yy (G0 r14.2) O (G7 (hK13 ?_)))))))
 refine Jr fun hK15=>(JLh (.agg (H4.cs r3)) (Gi Hu O O O) O (Yy (E2 [(Gh.mk 1 ByteArray.empty 40 false 0 0 0 0 false),(Gh.mk 2 ByteArray.empty 40 false 0 0 0 0 false),(Gh.mk 3 ByteArray.empty 40 false 0 0 0 0 false),(Gh.mk 4 ByteArray.empty 40 false 0 0 0 0 false),(Gh.mk 5 ByteArray.empty 40 false 0 0 0 0 false),(Gh.mk 6 ByteArray.empty 20 false 0 0 0 0 false),(Gh.mk 7 ByteArray.empty 20 false 0 0 0 0 false)]) O (Yy (E1 [r6,r7,r8,r9,r10]) O (JLh (E0 [7]) (Hn (xs:=[G0 7]) O ⟨O,O,G⟩ Gu Y2 O O O O) O ?_))))
 obtain⟨r16,hr16,h⟩:=Ge h
 refine JLh (.tup [E0 r16.1,G0 r16.2]) (Gn O (Gab.down F r3 [(Gh.mk 1 ByteArray.empty 40 false 0 0 0 0 false),(Gh.mk 2 ByteArray.empty 40 false 0 0 0 0 false),(Gh.mk 3 ByteArray.empty 40 false 0 0 0 0 false),(Gh.mk 4 ByteArray.empty 40 false 0 0 0 0 false),(Gh.mk 5 ByteArray.empty 40 false 0 0 0 0 false),(Gh.mk 6 ByteArray.empty 20 false 0 0 0 0 false),(Gh.mk 7 ByteArray.empty 20 false 0 0 0 0 false)] [r6,r7,r8,r9,r10] [7] r16 hr16) H64 ⟨O,O,O,O,O,O,O,O,G⟩) O (Yy (.tup [E0 r16.1,G0 r16.2]) O (JLh (E0 r16.1) (Hv O O O) O (JLh (G0 r16.2) (Hv O O O) O (Yy (E0 r16.1) O (Yy (G0 r16.2) O (G7 (hK15 ?_)))))))
 refine Jr fun hK17=>(JLh (.agg (H4.cs r3)) (Gi Hu O O O) O (Yy (E2 [(Gh.mk 1 ByteArray.empty 40 false 0 0 0 0 false),(Gh.mk 2 ByteArray.empty 40 false 0 0 0 0 false),(Gh.mk 3 ByteArray.empty 40 false 0 0 0 0 false),(Gh.mk 4 ByteArray.empty 40 false 0 0 0 0 false),(Gh.mk 5 ByteArray.empty 40 false 0 0 0 0 false),(Gh.mk 6 ByteArray.empty 20 false 0 0 0 0 false),(Gh.mk 7 ByteArray.empty 20 false 0 0 0 0 false)]) O (Yy (E1 [r6,r7,r8,r9,r10]) O ?_)))
 obtain⟨r18,hr18,h⟩:=Ge h
 refine JLh (.tup [E0 r18.1,G0 r18.2]) (H1b (args:=[.agg (H4.cs r3),E2 [(Gh.mk 1 ByteArray.empty 40 false 0 0 0 0 false),(Gh.mk 2 ByteArray.empty 40 false 0 0 0 0 false),(Gh.mk 3 ByteArray.empty 40 false 0 0 0 0 false),(Gh.mk 4 ByteArray.empty 40 false 0 0 0 0 false),(Gh.mk 5 ByteArray.empty 40 false 0 0 0 0 false),(Gh.mk 6 ByteArray.empty 20 false 0 0 0 0 false),(Gh.mk 7 ByteArray.empty 20 false 0 0 0 0 false)],E1 [r6,r7,r8,r9,r10],E0 ([]:List Int),G0 0]) O (M_stow_Open_w F r3 [(Gh.mk 1 ByteArray.empty 40 false 0 0 0 0 false),(Gh.mk 2 ByteArray.empty 40 false 0 0 0 0 false),(Gh.mk 3 ByteArray.empty 40 false 0 0 0 0 false),(Gh.mk 4 ByteArray.empty 40 false 0 0 0 0 false),(Gh.mk 5 ByteArray.empty 40 false 0 0 0 0 false),(Gh.mk 6 ByteArray.empty 20 false 0 0 0 0 false),(Gh.mk 7 ByteArray.empty 20 false 0 0 0 0 false)] [r6,r7,r8,r9,r10] [] 0 r18 hr18) Q55 ⟨.inl O,O,.inl O,O,.inl O,O,.inr ⟨_,O,O⟩,O,.inl O,O,G⟩) O (Yy (.tup [E0 r18.1,G0 r18.2]) O (JLh (E0 r18.1) (Hv O O O) O (JLh (G0 r18.2) (Hv O O O) O (Yy (E0 r18.1) O (Yy (G0 r18.2) O (G7 (hK17 ?_)))))))
 refine Js fun hK19=>?_
 obtain⟨r20,hr20,h⟩:=Ge h
 obtain⟨r21,hr21,h⟩:=Ge h
 refine JC_d0 J8 (by kernel_rfl) (Dq (.agg (H4.cs r3)) (Gi Hu O O O) O (Dq (E2 [(Gh.mk 1 ByteArray.empty 40 false 0 0 0 0 false),(Gh.mk 2 ByteArray.empty 40 false 0 0 0 0 false),(Gh.mk 3 ByteArray.empty 40 false 0 0 0 0 false),(Gh.mk 4 ByteArray.empty 40 false 0 0 0 0 false),(Gh.mk 5 ByteArray.empty 40 false 0 0 0 0 false),(Gh.mk 6 ByteArray.empty 20 false 0 0 0 0 false),(Gh.mk 7 ByteArray.empty 20 false 0 0 0 0 false)]) (G5 O O) O (Dq (E1 [r6,r7,r8,r9,r10]) (G5 O O) O (Dq (.agg (Stowed.cs r20)) (Gn (args:=[G0 4,G0 2,G0 2,U8 0]) O (Rb 4 2 2 0 r20 hr20) G94 ⟨O,O,O,O,O,O,O,O,G⟩) O (Dq (.tup [E1 r21.1,G0 r21.2]) (H1b (args:=[.agg (H4.cs r3),E2 [(Gh.mk 1 ByteArray.empty 40 false 0 0 0 0 false),(Gh.mk 2 ByteArray.empty 40 false 0 0 0 0 false),(Gh.mk 3 ByteArray.empty 40 false 0 0 0 0 false),(Gh.mk 4 ByteArray.empty 40 false 0 0 0 0 false),(Gh.mk 5 ByteArray.empty 40 false 0 0 0 0 false),(Gh.mk 6 ByteArray.empty 20 false 0 0 0 0 false),(Gh.mk 7 ByteArray.empty 20 false 0 0 0 0 false)],E1 [r6,r7,r8,r9,r10],E0 ([]:List Int),.agg (Stowed.cs r20)]) O (J19 F r3 [(Gh.mk 1 ByteArray.empty 40 false 0 0 0 0 false),(Gh.mk 2 ByteArray.empty 40 false 0 0 0 0 false),(Gh.mk 3 ByteArray.empty 40 false 0 0 0 0 false),(Gh.mk 4 ByteArray.empty 40 false 0 0 0 0 false),(Gh.mk 5 ByteArray.empty 40 false 0 0 0 0 false),(Gh.mk 6 ByteArray.empty 20 false 0 0 0 0 false),(Gh.mk 7 ByteArray.empty 20 false 0 0 0 0 false)] [r6,r7,r8,r9,r10] [] r20 r21 hr21) J98 ⟨.inl O,O,.inl O,O,.inl O,O,.inr ⟨_,O,O⟩,O,.inl O,O,G⟩) O (Dq (.tup [E1 r21.1,G0 r21.2]) (G5 O O) O (Dq (E1 r21.1) (Hv O O O) O (Dq (G0 r21.2) (Hv O O O) O (Dq (E1 r21.1) (G8 O O) O (Dq (G0 r21.2) (G8 O O) O (Dnil ?_)))))))))))
 refine hK19 (Js fun hK22=>?_)
 obtain⟨r23,hr23,h⟩:=Ge h
 obtain⟨r24,hr24,h⟩:=Ge h
 refine JC_d0 J8 (by kernel_rfl) (Dq (.agg (H4.cs r3)) (Gi Hu O O O) O (Dq (E2 [(Gh.mk 1 ByteArray.empty 40 false 0 0 0 0 false),(Gh.mk 2 ByteArray.empty 40 false 0 0 0 0 false),(Gh.mk 3 ByteArray.empty 40 false 0 0 0 0 false),(Gh.mk 4 ByteArray.empty 40 false 0 0 0 0 false),(Gh.mk 5 ByteArray.empty 40 false 0 0 0 0 false),(Gh.mk 6 ByteArray.empty 20 false 0 0 0 0 false),(Gh.mk 7 ByteArray.empty 20 false 0 0 0 0 false)]) (G5 O O) O (Dq (E1 [r6,r7,r8,r9,r10]) (G5 O O) O (Dq (.agg (Stowed.cs r23)) (Gn (args:=[G0 5,G0 3,G0 1,U8 0]) O (Rb 5 3 1 0 r23 hr23) G94 ⟨O,O,O,O,O,O,O,O,G⟩) O (Dq (.tup [E1 r24.1,G0 r24.2]) (H1b (args:=[.agg (H4.cs r3),E2 [(Gh.mk 1 ByteArray.empty 40 false 0 0 0 0 false),(Gh.mk 2 ByteArray.empty 40 false 0 0 0 0 false),(Gh.mk 3 ByteArray.empty 40 false 0 0 0 0 false),(Gh.mk 4 ByteArray.empty 40 false 0 0 0 0 false),(Gh.mk 5 ByteArray.empty 40 false 0 0 0 0 false),(Gh.mk 6 ByteArray.empty 20 false 0 0 0 0 false),(Gh.mk 7 ByteArray.empty 20 false 0 0 0 0 false)],E1 [r6,r7,r8,r9,r10],E0 ([]:List Int),.agg (Stowed.cs r23)]) O (J19 F r3 [(Gh.mk 1 ByteArray.empty 40 false 0 0 0 0 false),(Gh.mk 2 ByteArray.empty 40 false 0 0 0 0 false),(Gh.mk 3 ByteArray.empty 40 false 0 0 0 0 false),(Gh.mk 4 ByteArray.empty 40 false 0 0 0 0 false),(Gh.mk 5 ByteArray.empty 40 false 0 0 0 0 false),(Gh.mk 6 ByteArray.empty 20 false 0 0 0 0 false),(Gh.mk 7 ByteArray.empty 20 false 0 0 0 0 false)] [r6,r7,r8,r9,r10] [] r23 r24 hr24) J98 ⟨.inl O,O,.inl O,O,.inl O,O,.inr ⟨_,O,O⟩,O,.inl O,O,G⟩) O (Dq (.tup [E1 r24.1,G0 r24.2]) (G5 O O) O (Dq (E1 r24.1) (Hv O O O) O (Dq (G0 r24.2) (Hv O O O) O (Dq (E1 r24.1) (G8 O O) O (Dq (G0 r24.2) (G8 O O) O (Dnil ?_)))))))))))
 refine hK22 (Jr fun hK25=>(JLh (.agg (H4.cs r3)) (Gi Hu O O O) O (Yy (E2 [(Gh.mk 1 ByteArray.empty 40 false 0 0 0 0 false),(Gh.mk 2 ByteArray.empty 40 false 0 0 0 0 false),(Gh.mk 3 ByteArray.empty 40 false 0 0 0 0 false),(Gh.mk 4 ByteArray.empty 40 false 0 0 0 0 false),(Gh.mk 5 ByteArray.empty 40 false 0 0 0 0 false),(Gh.mk 6 ByteArray.empty 20 false 0 0 0 0 false),(Gh.mk 7 ByteArray.empty 20 false 0 0 0 0 false)]) O (Yy (E1 [r6,r7,r8,r9,r10]) O ?_))))
 obtain⟨r26,hr26,h⟩:=Ge h
 refine JLh (BL r26) (Gn O (H16 r3 [(Gh.mk 1 ByteArray.empty 40 false 0 0 0 0 false),(Gh.mk 2 ByteArray.empty 40 false 0 0 0 0 false),(Gh.mk 3 ByteArray.empty 40 false 0 0 0 0 false),(Gh.mk 4 ByteArray.empty 40 false 0 0 0 0 false),(Gh.mk 5 ByteArray.empty 40 false 0 0 0 0 false),(Gh.mk 6 ByteArray.empty 20 false 0 0 0 0 false),(Gh.mk 7 ByteArray.empty 20 false 0 0 0 0 false)] [r6,r7,r8,r9,r10] r26 hr26) He5 ⟨O,O,O,O,O,O,G⟩) O (Yy (BL r26) O (JLo (G0 r12.2) [] O .sct G (fun hc=>G5 O O) O (JLo (G0 r14.2) [] O .sct G (fun hc=>G5 O O) O ?_)))
 obtain⟨v27,hv27,h⟩:=Ge h
 refine JLo (G0 v27) [83,84] O .sct ⟨Ua,Ua,G⟩ (fun hc=>Hs (Z7 (Gx hc hv27)) O O O) O (JLo (G0 r16.2) [] O .sct G (fun hc=>G5 O O) O ?_)
 obtain⟨v28,hv28,h⟩:=Ge h
 refine JLo (G0 v28) [85,86] O .sct ⟨Ua,Ua,G⟩ (fun hc=>Hs (Z7 (Gx hc hv28)) O O O) O (JLo (G0 r21.2) [] O .sct G (fun hc=>G5 O O) O ?_)
 obtain⟨v29,hv29,h⟩:=Ge h
 refine JLo (G0 v29) [87,88] O .sct ⟨Ua,Ua,G⟩ (fun hc=>Hs (Z7 (Gx hc hv29)) O O O) O (JLo (BL (decide (v29=0))) [89] O .sct ⟨Ua,G⟩ (fun hc=>Jt O O O) O (JLh (BL (r26&&(decide (v29=0)))) (Hx O O O O) O (Yy (BL (r26&&(decide (v29=0)))) O (JLo (E0 r12.1) [] O .sct G (fun hc=>G5 O O) O (JLo (E0 [1,2,3,6,7]) [] O .sct G (fun hc=>Hn (xs:=[G0 1,G0 2,G0 3,G0 6,G0 7]) O ⟨O,O,O,O,O,O,O,O,O,O,G⟩ Gu Y2 O O O O) O ?_)))))
 obtain⟨r30,hr30,h⟩:=Ge h
 refine JLo (BL r30) [93,94] O .sct ⟨Ua,Ua,G⟩ (fun hc=>Gn (args:=[E0 r12.1,E0 [1,2,3,6,7]]) O (Q7 r12.1 [1,2,3,6,7] r30 (Gx hc hr30)) G5d ⟨O,O,O,O,G⟩) O (JLh (BL ((r26&&(decide (v29=0)))&&r30)) (Hx O O O O) O (Yy (BL ((r26&&(decide (v29=0)))&&r30)) O (JLo (E0 r14.1) [] O .sct G (fun hc=>G5 O O) O (JLo (E0 [2,3,6,7]) [] O .sct G (fun hc=>Hn (xs:=[G0 2,G0 3,G0 6,G0 7]) O ⟨O,O,O,O,O,O,O,O,G⟩ Gu Y2 O O O O) O ?_))))
 obtain⟨r31,hr31,h⟩:=Ge h
 refine JLo (BL r31) [98,99] O .sct ⟨Ua,Ua,G⟩ (fun hc=>Gn (args:=[E0 r14.1,E0 [2,3,6,7]]) O (Q7 r14.1 [2,3,6,7] r31 (Gx hc hr31)) G5d ⟨O,O,O,O,G⟩) O (JLh (BL (((r26&&(decide (v29=0)))&&r30)&&r31)) (Hx O O O O) O (Yy (BL (((r26&&(decide (v29=0)))&&r30)&&r31)) O (JLo (E0 r16.1) [] O .sct G (fun hc=>G5 O O) O (JLo (E0 [3,7]) [] O .sct G (fun hc=>Hn (xs:=[G0 3,G0 7]) O ⟨O,O,O,O,G⟩ Gu Y2 O O O O) O ?_))))
 obtain⟨r32,hr32,h⟩:=Ge h
 refine JLo (BL r32) [103,104] O .sct ⟨Ua,Ua,G⟩ (fun hc=>Gn (args:=[E0 r16.1,E0 [3,7]]) O (Q7 r16.1 [3,7] r32 (Gx hc hr32)) G5d ⟨O,O,O,O,G⟩) O (JLh (BL ((((r26&&(decide (v29=0)))&&r30)&&r31)&&r32)) (Hx O O O O) O (Yy (BL ((((r26&&(decide (v29=0)))&&r30)&&r31)&&r32)) O (JLo (G0 r18.2) [] O .sct G (fun hc=>G5 O O) O (JLo (BL (decide (r18.2=95))) [108] O .sct ⟨Ua,G⟩ (fun hc=>Jt O O O) O (JLh (BL (((((r26&&(decide (v29=0)))&&r30)&&r31)&&r32)&&(decide (r18.2=95)))) (Hx O O O O) O (Yy (BL (((((r26&&(decide (v29=0)))&&r30)&&r31)&&r32)&&(decide (r18.2=95)))) O (JLo (E1 r21.1) [] O .sct G (fun hc=>G5 O O) O (JLo (Eg r21.1.length) [112] O .sct ⟨Ua,G⟩ (fun hc=>Qi (f:=Stowed.av) (xs:=r21.1) H0 O O) O (JLo (BL (decide ((r21.1.length:Int)=6))) [113] O .sct ⟨Ua,G⟩ (fun hc=>Jt O O O) O (JLh (BL ((((((r26&&(decide (v29=0)))&&r30)&&r31)&&r32)&&(decide (r18.2=95)))&&(decide ((r21.1.length:Int)=6)))) (Hx O O O O) O (Yy (BL ((((((r26&&(decide (v29=0)))&&r30)&&r31)&&r32)&&(decide (r18.2=95)))&&(decide ((r21.1.length:Int)=6)))) O (JLo (G0 r24.2) [] O .sct G (fun hc=>G5 O O) O (JLo (BL (decide (r24.2=93))) [117] O .sct ⟨Ua,G⟩ (fun hc=>Jt O O O) O ?_)))))))))))))
 refine JLh (BL (((((((r26&&(decide (v29=0)))&&r30)&&r31)&&r32)&&(decide (r18.2=95)))&&(decide ((r21.1.length:Int)=6)))&&(decide (r24.2=93)))) (Hx O O O O) O (Yy (BL (((((((r26&&(decide (v29=0)))&&r30)&&r31)&&r32)&&(decide (r18.2=95)))&&(decide ((r21.1.length:Int)=6)))&&(decide (r24.2=93)))) O (JLo (.agg (H4.cs r3)) [] O .sct G (fun hc=>Gi Hu O O O) O (JLo (E2 [(Gh.mk 1 ByteArray.empty 40 false 0 0 0 0 false),(Gh.mk 2 ByteArray.empty 40 false 0 0 0 0 false),(Gh.mk 3 ByteArray.empty 40 false 0 0 0 0 false),(Gh.mk 4 ByteArray.empty 40 false 0 0 0 0 false),(Gh.mk 5 ByteArray.empty 40 false 0 0 0 0 false),(Gh.mk 6 ByteArray.empty 20 false 0 0 0 0 false),(Gh.mk 7 ByteArray.empty 20 false 0 0 0 0 false)]) [] O .sct G (fun hc=>G5 O O) O (JLo (E1 [r6,r7,r8,r9,r10]) [] O .sct G (fun hc=>G5 O O) O ?_))))
 obtain⟨r33,hr33,h⟩:=Ge h
 refine JLo (G0 r33) [121,122,123] O .sct ⟨Ua,Ua,Ua,G⟩ (fun hc=>H1b (args:=[.agg (H4.cs r3),E2 [(Gh.mk 1 ByteArray.empty 40 false 0 0 0 0 false),(Gh.mk 2 ByteArray.empty 40 false 0 0 0 0 false),(Gh.mk 3 ByteArray.empty 40 false 0 0 0 0 false),(Gh.mk 4 ByteArray.empty 40 false 0 0 0 0 false),(Gh.mk 5 ByteArray.empty 40 false 0 0 0 0 false),(Gh.mk 6 ByteArray.empty 20 false 0 0 0 0 false),(Gh.mk 7 ByteArray.empty 20 false 0 0 0 0 false)],E1 [r6,r7,r8,r9,r10],E0 ([]:List Int),G0 2]) O (H45 r3 [(Gh.mk 1 ByteArray.empty 40 false 0 0 0 0 false),(Gh.mk 2 ByteArray.empty 40 false 0 0 0 0 false),(Gh.mk 3 ByteArray.empty 40 false 0 0 0 0 false),(Gh.mk 4 ByteArray.empty 40 false 0 0 0 0 false),(Gh.mk 5 ByteArray.empty 40 false 0 0 0 0 false),(Gh.mk 6 ByteArray.empty 20 false 0 0 0 0 false),(Gh.mk 7 ByteArray.empty 20 false 0 0 0 0 false)] [r6,r7,r8,r9,r10] [] 2 r33 (Gx hc hr33)) He1 ⟨.inl O,O,.inl O,O,.inl O,O,.inr ⟨_,O,O⟩,O,.inl O,O,G⟩) O (JLo (BL (decide (r33=91))) [124] O .sct ⟨Ua,G⟩ (fun hc=>Jt O O O) O (JLh (BL ((((((((r26&&(decide (v29=0)))&&r30)&&r31)&&r32)&&(decide (r18.2=95)))&&(decide ((r21.1.length:Int)=6)))&&(decide (r24.2=93)))&&(decide (r33=91)))) (Hx O O O O) O (Yy (BL ((((((((r26&&(decide (v29=0)))&&r30)&&r31)&&r32)&&(decide (r18.2=95)))&&(decide ((r21.1.length:Int)=6)))&&(decide (r24.2=93)))&&(decide (r33=91)))) O (JLo (.agg (H4.cs r3)) [] O .sct G (fun hc=>Gi Hu O O O) O (JLo (E2 [(Gh.mk 1 ByteArray.empty 40 false 0 0 0 0 false),(Gh.mk 2 ByteArray.empty 40 false 0 0 0 0 false),(Gh.mk 3 ByteArray.empty 40 false 0 0 0 0 false),(Gh.mk 4 ByteArray.empty 40 false 0 0 0 0 false),(Gh.mk 5 ByteArray.empty 40 false 0 0 0 0 false),(Gh.mk 6 ByteArray.empty 20 false 0 0 0 0 false),(Gh.mk 7 ByteArray.empty 20 false 0 0 0 0 false)]) [] O .sct G (fun hc=>G5 O O) O (JLo (E1 [r6,r7,r8,r9,r10]) [] O .sct G (fun hc=>G5 O O) O ?_))))))
 obtain⟨r34,hr34,h⟩:=Ge h
 refine JLo (G0 r34) [128,129,130] O .sct ⟨Ua,Ua,Ua,G⟩ (fun hc=>H1b (args:=[.agg (H4.cs r3),E2 [(Gh.mk 1 ByteArray.empty 40 false 0 0 0 0 false),(Gh.mk 2 ByteArray.empty 40 false 0 0 0 0 false),(Gh.mk 3 ByteArray.empty 40 false 0 0 0 0 false),(Gh.mk 4 ByteArray.empty 40 false 0 0 0 0 false),(Gh.mk 5 ByteArray.empty 40 false 0 0 0 0 false),(Gh.mk 6 ByteArray.empty 20 false 0 0 0 0 false),(Gh.mk 7 ByteArray.empty 20 false 0 0 0 0 false)],E1 [r6,r7,r8,r9,r10],E0 ([]:List Int),G0 6]) O (H45 r3 [(Gh.mk 1 ByteArray.empty 40 false 0 0 0 0 false),(Gh.mk 2 ByteArray.empty 40 false 0 0 0 0 false),(Gh.mk 3 ByteArray.empty 40 false 0 0 0 0 false),(Gh.mk 4 ByteArray.empty 40 false 0 0 0 0 false),(Gh.mk 5 ByteArray.empty 40 false 0 0 0 0 false),(Gh.mk 6 ByteArray.empty 20 false 0 0 0 0 false),(Gh.mk 7 ByteArray.empty 20 false 0 0 0 0 false)] [r6,r7,r8,r9,r10] [] 6 r34 (Gx hc hr34)) He1 ⟨.inl O,O,.inl O,O,.inl O,O,.inr ⟨_,O,O⟩,O,.inl O,O,G⟩) O (JLo (BL (decide (r34=90))) [131] O .sct ⟨Ua,G⟩ (fun hc=>Jt O O O) O (JLh (BL (((((((((r26&&(decide (v29=0)))&&r30)&&r31)&&r32)&&(decide (r18.2=95)))&&(decide ((r21.1.length:Int)=6)))&&(decide (r24.2=93)))&&(decide (r33=91)))&&(decide (r34=90)))) (Hx O O O O) O (Yy (BL (((((((((r26&&(decide (v29=0)))&&r30)&&r31)&&r32)&&(decide (r18.2=95)))&&(decide ((r21.1.length:Int)=6)))&&(decide (r24.2=93)))&&(decide (r33=91)))&&(decide (r34=90)))) O (JLo (.agg (H4.cs r3)) [] O .sct G (fun hc=>Gi Hu O O O) O (JLo (E2 [(Gh.mk 1 ByteArray.empty 40 false 0 0 0 0 false),(Gh.mk 2 ByteArray.empty 40 false 0 0 0 0 false),(Gh.mk 3 ByteArray.empty 40 false 0 0 0 0 false),(Gh.mk 4 ByteArray.empty 40 false 0 0 0 0 false),(Gh.mk 5 ByteArray.empty 40 false 0 0 0 0 false),(Gh.mk 6 ByteArray.empty 20 false 0 0 0 0 false),(Gh.mk 7 ByteArray.empty 20 false 0 0 0 0 false)]) [] O .sct G (fun hc=>G5 O O) O (JLo (E1 [r6,r7,r8,r9,r10]) [] O .sct G (fun hc=>G5 O O) O ?_))))))
 obtain⟨r35,hr35,h⟩:=Ge h
 refine JLo (G0 r35) [135,136,137] O .sct ⟨Ua,Ua,Ua,G⟩ (fun hc=>H1b (args:=[.agg (H4.cs r3),E2 [(Gh.mk 1 ByteArray.empty 40 false 0 0 0 0 false),(Gh.mk 2 ByteArray.empty 40 false 0 0 0 0 false),(Gh.mk 3 ByteArray.empty 40 false 0 0 0 0 false),(Gh.mk 4 ByteArray.empty 40 false 0 0 0 0 false),(Gh.mk 5 ByteArray.empty 40 false 0 0 0 0 false),(Gh.mk 6 ByteArray.empty 20 false 0 0 0 0 false),(Gh.mk 7 ByteArray.empty 20 false 0 0 0 0 false)],E1 [r6,r7,r8,r9,r10],E0 ([]:List Int),G0 3]) O (H45 r3 [(Gh.mk 1 ByteArray.empty 40 false 0 0 0 0 false),(Gh.mk 2 ByteArray.empty 40 false 0 0 0 0 false),(Gh.mk 3 ByteArray.empty 40 false 0 0 0 0 false),(Gh.mk 4 ByteArray.empty 40 false 0 0 0 0 false),(Gh.mk 5 ByteArray.empty 40 false 0 0 0 0 false),(Gh.mk 6 ByteArray.empty 20 false 0 0 0 0 false),(Gh.mk 7 ByteArray.empty 20 false 0 0 0 0 false)] [r6,r7,r8,r9,r10] [] 3 r35 (Gx hc hr35)) He1 ⟨.inl O,O,.inl O,O,.inl O,O,.inr ⟨_,O,O⟩,O,.inl O,O,G⟩) O (JLo (BL (decide (r35=0))) [138] O .sct ⟨Ua,G⟩ (fun hc=>Jt O O O) O (JLh (BL ((((((((((r26&&(decide (v29=0)))&&r30)&&r31)&&r32)&&(decide (r18.2=95)))&&(decide ((r21.1.length:Int)=6)))&&(decide (r24.2=93)))&&(decide (r33=91)))&&(decide (r34=90)))&&(decide (r35=0)))) (Hx O O O O) O (Yy (BL ((((((((((r26&&(decide (v29=0)))&&r30)&&r31)&&r32)&&(decide (r18.2=95)))&&(decide ((r21.1.length:Int)=6)))&&(decide (r24.2=93)))&&(decide (r33=91)))&&(decide (r34=90)))&&(decide (r35=0)))) O (G7 (hK25 ?_)))))
 refine Gr (fin1 BL h)

def Qr (boxes:List Gh) (id_:Int):Option (Gh×Bool):=
 each (fun y21 i21 (s21:Unit) nx21=>
  bif decide (y21.ID=id_) then
  (some (y21,true))
  else
  (nx21 ()))
 (fun(s21:Unit)=>
  some ((Gh.mk 0 ByteArray.empty 0 false 0 0 0 0 false),false)) boxes 0 ()
theorem G37 (boxes:List Gh) (id_:Int) (r:Gh×Bool) (h:Qr boxes id_=some r):Pure Eh 12 [E2 boxes,G0 id_] (·=.tup [.agg (Gh.cs r.1),BL r.2]):=by
 unfold Qr at h
 refine Gy [.cell 4 43,.tmp 5] Tryz.func12 O O (Jr fun hK1=>(JLh (.ptr 1016 0) (G1c 1016 [G0 0,ST ByteArray.empty,U8 0,BL false,G0 0,G0 0,G0 0,U8 0,BL false] [.int .i64 0,.string ByteArray.empty,.int .u8 0,.bool false,.int .i64 0,.int .i64 0,.int .i64 0,.int .u8 0,.bool false] Zp ⟨.inl O,.inl O,.inl O,.inl O,.inl O,.inl O,.inl O,.inl O,.inl O,G⟩ O O) O (Yy (BL false) O (G7 (hK1 (Js fun hK2=>Jr fun hK3=>(Yy (G0 0) O (G7 (hK3 (Gs ?_))))))))))
 obtain⟨b21,kx21,hb21,hkx21,h⟩:=J5 h
 refine Hc (fun i21 (s21:Unit)=>each b21 kx21 (List.drop i21 boxes) i21 s21=some r) (fun i21 s21=>[(0,E2 boxes),(1,G0 id_),(4,.ptr 1016 0),(6,Eg i21)]) (fun i21 s21=>[(1016,.box 43 [G0 0,ST ByteArray.empty,U8 0,BL false,G0 0,G0 0,G0 0,U8 0,BL false])]) (fun i21=>boxes.length - i21) 0 () h ⟨(by repeat' constructor),⟨⟨_,rfl,.boxL rfl (by repeat' constructor)⟩,G⟩,rfl⟩ ?_
 clear h
 intro i21 s21 hi21 K21 e21
 refine Js fun hK22=>Jr fun hK23=>(Yy (Eg i21) O (Yy (E2 boxes) O (JLl Jm O O O fun hm9=>(JLh (BL (decide ((i21:Int) < (boxes.length:Int)))) (J4 O O O) O (G7 (hK23 (Gk O (fun hb=>?_) (fun hb=>?_))))))))
 ·
  have hk21:=Jj hb
  obtain⟨y21,nx21,hy21,hn21,h⟩:=Hq hi21 hk21
  replace h:=Z1 hb21 h
  refine Gp (hK22 (Js fun hK24=>Gs (Jr fun hK25=>(Yy (E2 boxes) O (Yy (Eg i21) O (JLh (Ed y21) (Gv (f:=Gh.av) (xs:=boxes) (y:=y21) O O O Jm hy21 O) O (JLh (Ed y21) (Ga Hca O O O) O (JLh (G0 y21.ID) (Gg Gd O O O) O (Yy (G0 id_) O (JLh (BL (decide (y21.ID=id_))) (Jt O O O) O (G7 (hK25 (JCc O h (fun h hb=>?_) (fun h hb=>?_))))))))))))))
  ·
   refine Jr fun hK26=>(Yy (E2 boxes) O (Yy (Eg i21) O (JLh (Ed y21) (Gv (f:=Gh.av) (xs:=boxes) (y:=y21) O O O Jm hy21 O) O (JLh (.agg (Gh.cs y21)) (Gi G05 O O O) O (Jk (u:=.junk) (Jb (u:=.agg (Gh.cs y21)) (ds:=(Gh.cs y21)) G08 O O O O O O O O) (Yy (BL true) O (G7 (hK26 (Gr (⟨[.agg (Gh.cs y21),BL true],[],G,O,⟨⟨_,⟨_,_,_,_,O,O,O,.inl ⟨G05,O⟩⟩,.conv (.same O)⟩,⟨_,O,.conv (.same O)⟩,G⟩,O,congrArg (fun r:Gh×Bool=>(.tup [.agg (Gh.cs r.1),BL r.2]:AV)) (Option.some.inj h)⟩))))))))))
  ·
   refine Gp (hK24 (G3 (Yy (Eg i21) O (JLh (G0 ((i21+1:Nat):Int)) (Hs (He hk21 hm9) O O O) O (Yy (G0 ((i21+1:Nat):Int)) O (G7 (e21 _ _ (i21+1) () (app1 hn21 h) (by omega) ⟨(by repeat' constructor),⟨⟨_,rfl,.boxL rfl (by repeat' constructor)⟩,G⟩,rfl⟩)))))))
 ·
  have h:=app1 hkx21 (Hr hi21 (Ha hb))
  refine Hi (hK2 ?_)
  refine Jr fun hK27=>(JLh (.agg [G0 0,ST ByteArray.empty,U8 0,BL false,G0 0,G0 0,G0 0,U8 0,BL false]) (Jq (cs:=[G0 0,ST ByteArray.empty,U8 0,BL false,G0 0,G0 0,G0 0,U8 0,BL false]) [(0,1),(1,1),(2,1),(3,1),(4,1),(5,1),(6,1),(7,1),(8,1)] [G0 0,ST ByteArray.empty,U8 0,BL false,G0 0,G0 0,G0 0,U8 0,BL false] [.int .i64 0,.string ByteArray.empty,.int .u8 0,.bool false,.int .i64 0,.int .i64 0,.int .i64 0,.int .u8 0,.bool false] Zr Zp ⟨.inl O,.inl O,.inl O,.inl O,.inl O,.inl O,.inl O,.inl O,.inl O,G⟩ O O) O (Jk (u:=.junk) (Jb (u:=.agg [G0 0,ST ByteArray.empty,U8 0,BL false,G0 0,G0 0,G0 0,U8 0,BL false]) (ds:=[G0 0,ST ByteArray.empty,U8 0,BL false,G0 0,G0 0,G0 0,U8 0,BL false]) G08 O O O O O O O O) (Yy (BL false) O (G7 (hK27 ?_)))))
  refine Gr (⟨[.agg [G0 0,ST ByteArray.empty,U8 0,BL false,G0 0,G0 0,G0 0,U8 0,BL false],BL false],[],G,O,⟨⟨_,⟨_,_,_,_,O,O,O,.inl ⟨G05,O⟩⟩,.conv (.same O)⟩,⟨_,O,.conv (.same O)⟩,G⟩,O,congrArg (fun r:Gh×Bool=>(.tup [.agg (Gh.cs r.1),BL r.2]:AV)) (Option.some.inj h)⟩)

def Hp (n:Int) (low:Int) (high:Int):Option Bool:=
 some ((decide (low≤n))&&(decide (n≤high)))
theorem J0 (n:Int) (low:Int) (high:Int) (r:Bool) (h:Hp n low high=some r):Pure Eh 109 [G0 n,G0 low,G0 high] (·=BL r):=by
 unfold Hp at h
 refine Gy [.tmp 6] Tryz.func109 O O (Jr fun hK1=>(Yy (BL false) O (G7 (hK1 (Jr fun hK2=>(Yy (G0 n) O (Yy (G0 low) O (JLh (BL (decide (low≤n))) (G17 O O O) O (Yy (BL (decide (low≤n))) O (JLo (G0 n) [] O .sct G (fun hc=>G5 O O) O (JLo (G0 high) [] O .sct G (fun hc=>G5 O O) O (JLo (BL (decide (n≤high))) [11,12] O .sct ⟨Ua,Ua,G⟩ (fun hc=>Hd4 O O O) O (JLh (BL ((decide (low≤n))&&(decide (n≤high)))) (Hx O O O O) O (Yy (BL ((decide (low≤n))&&(decide (n≤high)))) O (G7 (hK2 (Gr (fin1 BL h))))))))))))))))))
end
end Go.Proofs.YtjkmmenifdklmaaGreat
