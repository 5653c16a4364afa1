/-
 Models of functions of the program,and that they return what the models say.
-/
import Derived.Test.YtecjdioomlhhiaaGreatXH
set_option maxRecDepth 100000
set_option maxHeartbeats 1000000
set_option linter.unusedVariables false
set_option linter.unusedSimpArgs false
namespace Go.Proofs.YtecjdioomlhhiaaGreat
open Go.RowKit
noncomputable section

namespace XPF
open XAF
open XLF
open XCF
open XGF
open XHF
theorem R2d:H7 Ei 10=true:=by kernel_rfl
theorem Qbb:H7 Ei 104=true:=by kernel_rfl
theorem J81:H7 Ei 105=true:=by kernel_rfl
theorem J80:H7 Ei 106=true:=by kernel_rfl
theorem H5c:H7 Ei 107=true:=by kernel_rfl
theorem J7f:H7 Ei 108=true:=by kernel_rfl
theorem R2c:H7 Ei 11=true:=by kernel_rfl
theorem Qb8:H7 Ei 111=true:=by kernel_rfl
theorem J25:H7 Ei 12=true:=by kernel_rfl
theorem R2b:H7 Ei 13=true:=by kernel_rfl
theorem Qa8:H7 Ei 140=true:=by kernel_rfl
theorem Je0:H7 Ei 15=true:=by kernel_rfl
theorem Jdf:H7 Ei 16=true:=by kernel_rfl
theorem Zn:H7 Ei 162=true:=by kernel_rfl
theorem Qa2:H7 Ei 163=true:=by kernel_rfl
theorem R2a:H7 Ei 17=true:=by kernel_rfl
theorem R29:H7 Ei 18=true:=by kernel_rfl
theorem R28:H7 Ei 19=true:=by kernel_rfl
theorem R27:H7 Ei 20=true:=by kernel_rfl
theorem R26:H7 Ei 21=true:=by kernel_rfl
theorem R25:H7 Ei 22=true:=by kernel_rfl
theorem R24:H7 Ei 24=true:=by kernel_rfl
theorem R23:H7 Ei 25=true:=by kernel_rfl
theorem Jde:H7 Ei 26=true:=by kernel_rfl
theorem R22:H7 Ei 28=true:=by kernel_rfl
theorem Gbb:H7 Ei 29=true:=by kernel_rfl
theorem J24:H7 Ei 30=true:=by kernel_rfl
theorem R88:H7 Ei 4=true:=by kernel_rfl
theorem Q40:H7 Ei 5=true:=by kernel_rfl
theorem Ha4:H7 Ei 50=true:=by kernel_rfl
theorem J21:H7 Ei 51=true:=by kernel_rfl
theorem J20:H7 Ei 52=true:=by kernel_rfl
theorem Jd6:H7 Ei 53=true:=by kernel_rfl
theorem J1f:H7 Ei 54=true:=by kernel_rfl
theorem H2c:H7 Ei 55=true:=by kernel_rfl
theorem Jd5:H7 Ei 56=true:=by kernel_rfl
theorem Jd4:H7 Ei 57=true:=by kernel_rfl
theorem Jd3:H7 Ei 58=true:=by kernel_rfl
theorem Jd2:H7 Ei 59=true:=by kernel_rfl
theorem R87:H7 Ei 6=true:=by kernel_rfl
theorem R1c:H7 Ei 63=true:=by kernel_rfl
theorem R1b:H7 Ei 64=true:=by kernel_rfl
theorem R1a:H7 Ei 69=true:=by kernel_rfl
theorem R86:H7 Ei 7=true:=by kernel_rfl
theorem R85:H7 Ei 8=true:=by kernel_rfl
theorem Q9f:J4c Ei 5 .u8=true:=by kernel_rfl
theorem Q74:placesOf Ei 32=some [(0,1),(1,1),(2,4),(6,1),(7,1),(8,1),(9,4)]:=by kernel_rfl
theorem R81:Zh Ei 3 1=true:=by kernel_rfl
theorem J75:G01 Ei 32 13=true:=by kernel_rfl
end XPF
open XAF
open XLF
open XCF
open XGF
open XHF
open XPF

def G22 (s:H0) (boxes:List Box) (l:List Stowed) (others:List Int):Option Bool:=
 bif (((((decide (20 < (s.Columns.length:Int)))||(decide (20 < (s.Covers.length:Int))))||(decide (40 < (boxes.length:Int))))||(decide (30 < (l.length:Int))))||(decide (12 < (others.length:Int)))) then
 (some false)
 else
 (each (fun y21 i21 (s21:Unit) nx21=>
   bif ((decide (12 < (y21.Plugs.length:Int)))||(decide (12 < y21.Tiers))) then
   (some false)
   else
   (nx21 ()))
  (fun(s21:Unit)=>
   each (fun y44 i44 (s44:Unit) nx44=>
    bif decide (40 < (y44.Rows.length:Int)) then
    (some false)
    else
    (nx44 ()))
   (fun(s44:Unit)=>
    some true) s.Covers 0 ()) s.Columns 0 ())
abbrev Ey (s:H0):List AV:=[E4 s.Covers,I64 s.Light.Kilos,I64 s.Light.X,I64 s.Light.Y,I64 s.Light.Z,E7 s.Rows,E6 s.Frames,E8 s.Tanks,I64 s.G1.Tolerance,I64 s.G1.Trim,I64 s.G1.List_,I64 s.G1.Stability]
theorem Hbc (s:H0) (boxes:List Box) (l:List Stowed) (others:List Int) (r:Bool) (h:G22 s boxes l others=some r):Pure Ei 4 [.agg (H0.cs s),E3 boxes,E2 l,E1 others] (·=BL r):=by
 unfold G22 at h
 refine Gz [.tmp 8] Tryz.func4 O O (Jr fun hK1=>(JLh (.ptr 1004 0) (Je (cs:=(H0.cs s)) 1004 O O O O O) O (JLm (BL false) O (G7 (hK1 (Gx [(1,E3 boxes),(2,E2 l),(3,E1 others),(4,Eb s)] [] 1004 rfl rfl rfl G rfl (by repeat' (first | exact .ptr | constructor)) (Js fun hK2=>?_)))))))
 refine Jr fun hK3=>(JLh (Eb s) (Ga Hi O O O) O (JLh (E5 s.Columns) (Gf Ht O O O) O (JLl H4 O O O fun hm15=>(JLh (BL (decide (20 < (s.Columns.length:Int)))) (G30 O O O) O (JLm (BL (decide (20 < (s.Columns.length:Int)))) O (JLo (.dptr (Ey s)) [] O .scf G (fun hc=>Ga J0 O O O) O (JLo (E4 s.Covers) [18] O .scf ⟨Ua,G⟩ (fun hc=>Gf J8 O O O) O (JLo (Eh s.Covers.length) [19] O .scf ⟨Ua,G⟩ (fun hc=>Qe (f:=G9.av) (xs:=s.Covers) He O O) O (JLo (BL (decide (20 < (s.Covers.length:Int)))) [20] O .scf ⟨Ua,G⟩ (fun hc=>G30 O O O) O (JLh (BL ((decide (20 < (s.Columns.length:Int)))||(decide (20 < (s.Covers.length:Int))))) (Y4 O O O O) O (JLm (BL ((decide (20 < (s.Columns.length:Int)))||(decide (20 < (s.Covers.length:Int))))) O (JLo (E3 boxes) [] O .scf G (fun hc=>G4 O O) O (JLo (Eh boxes.length) [24] O .scf ⟨Ua,G⟩ (fun hc=>Qe (f:=Box.av) (xs:=boxes) Jq O O) O ?_)))))))))))))
 refine JLo (BL (decide (40 < (boxes.length:Int)))) [25] O .scf ⟨Ua,G⟩ (fun hc=>G30 O O O) O (JLh (BL (((decide (20 < (s.Columns.length:Int)))||(decide (20 < (s.Covers.length:Int))))||(decide (40 < (boxes.length:Int))))) (Y4 O O O O) O (JLm (BL (((decide (20 < (s.Columns.length:Int)))||(decide (20 < (s.Covers.length:Int))))||(decide (40 < (boxes.length:Int))))) O (JLo (E2 l) [] O .scf G (fun hc=>G4 O O) O (JLo (Eh l.length) [29] O .scf ⟨Ua,G⟩ (fun hc=>Qe (f:=Stowed.av) (xs:=l) Gt O O) O (JLo (BL (decide (30 < (l.length:Int)))) [30] O .scf ⟨Ua,G⟩ (fun hc=>G30 O O O) O (JLh (BL ((((decide (20 < (s.Columns.length:Int)))||(decide (20 < (s.Covers.length:Int))))||(decide (40 < (boxes.length:Int))))||(decide (30 < (l.length:Int))))) (Y4 O O O O) O (JLm (BL ((((decide (20 < (s.Columns.length:Int)))||(decide (20 < (s.Covers.length:Int))))||(decide (40 < (boxes.length:Int))))||(decide (30 < (l.length:Int))))) O (JLo (E1 others) [] O .scf G (fun hc=>G4 O O) O (JLo (Eh others.length) [34] O .scf ⟨Ua,G⟩ (fun hc=>Qe (f:=I64) (xs:=others) Gs O O) O (JLo (BL (decide (12 < (others.length:Int)))) [35] O .scf ⟨Ua,G⟩ (fun hc=>G30 O O O) O (JLh (BL (((((decide (20 < (s.Columns.length:Int)))||(decide (20 < (s.Covers.length:Int))))||(decide (40 < (boxes.length:Int))))||(decide (30 < (l.length:Int))))||(decide (12 < (others.length:Int))))) (Y4 O O O O) O (G7 (hK3 ?_)))))))))))))
 refine JCc O h ?_ ?_<;>intro h hb
 ·
  refine Jr fun hK4=>(JLm (BL false) O (G7 (hK4 (Gn (fin1 BL h)))))
 ·
  refine Gk (hK2 (Js fun hK5=>Jr fun hK6=>(JLh (Eb s) (Ga Hi O O O) O (JLh (E5 s.Columns) (Gf Ht O O O) O (JLl H4 O O O fun hm40=>(JLm (I64 0) O (G7 (hK6 (Gq ?_)))))))))
  obtain⟨b21,kx21,hb21,hkx21,h⟩:=J3 h
  refine Hd (fun i21 (s21:Unit)=>each b21 kx21 (List.drop i21 s.Columns) i21 s21=some r) (fun i21 s21=>[(4,Eb s),(39,E5 s.Columns),(40,Eh s.Columns.length),(41,Eh i21)]) (fun i21 s21=>[]) (fun i21=>s.Columns.length - i21) 0 () h ⟨(.sm O O),G,rfl⟩ ?_
  clear h
  intro i21 s21 hi21 K21 e21
  refine Jr fun hK22=>(JLh (BL (decide ((i21:Int) < (s.Columns.length:Int)))) (Hz O O O) O (G7 (hK22 (Js fun hK23=>Gi O (fun hb=>?_) (fun hb=>?_)))))
  ·
   have hk21:=Jj hb
   obtain⟨y21,nx21,hy21,hn21,h⟩:=Hu hi21 hk21
   replace h:=Z9 hb21 h
   refine Gk (hK23 (Js fun hK24=>Gq (Jr fun hK25=>(JLh (Ed y21) (Gw (f:=G3.av) (xs:=s.Columns) (y:=y21) O O O H4 hy21 O) O (JLh (.agg (G3.cs y21)) (Gh Y5 O O O) O (JLh (.ptr 1005 0) (Qo 1005 12 G7d O O) O (Jo (u:=.junk) (Jh (u:=.agg (G3.cs y21)) (ds:=(G3.cs y21)) Geb O O O O O O O O) (G7 (hK25 ?_)))))))))
   refine Gx [(4,Eb s),(10,Ed y21),(39,E5 s.Columns),(40,Eh s.Columns.length),(41,Eh i21)] [] 1005 rfl rfl rfl G rfl (by repeat' (first | exact .ptr | constructor)) ?_
   refine Jr fun hK26=>(JLh (.dptr ((G3.cs y21).drop 8)) (Ga Rc O O O) O (JLh (E1 y21.Plugs) (Gf Hw O O O) O (JLl Gs O O O fun hm47=>(JLh (BL (decide (12 < (y21.Plugs.length:Int)))) (G30 O O O) O (JLm (BL (decide (12 < (y21.Plugs.length:Int)))) O (JLo (.dptr ((G3.cs y21).drop 3)) [] O .scf G (fun hc=>Ga G17 O O O) O (JLo (I64 y21.Tiers) [50] O .scf ⟨Ua,G⟩ (fun hc=>Gf Gd O O O) O (JLo (BL (decide (12 < y21.Tiers))) [51] O .scf ⟨Ua,G⟩ (fun hc=>G30 O O O) O (JLh (BL ((decide (12 < (y21.Plugs.length:Int)))||(decide (12 < y21.Tiers)))) (Y4 O O O O) O (G7 (hK26 (JCc O h (fun h hb=>?_) (fun h hb=>?_)))))))))))))
   ·
    refine Jr fun hK27=>(JLm (BL false) O (G7 (hK27 (Gn (fin1 BL h)))))
   ·
    refine Gk (hK24 (G2 (JLh (I64 ((i21+1:Nat):Int)) (Hs (Hf hk21 hm40) O O O) O (JLm (I64 ((i21+1:Nat):Int)) O (G7 (e21 _ _ (i21+1) () (app1 hn21 h) (by omega) ⟨(.sm O O),G,rfl⟩))))))
  ·
   have h:=app1 hkx21 (Hv hi21 (Ha hb))
   refine Hn (hK5 (Js fun hK28=>Jr fun hK29=>(JLh (.dptr (Ey s)) (Ga J0 O O O) O (JLh (E4 s.Covers) (Gf J8 O O O) O (JLl He O O O fun hm57=>(JLm (I64 0) O (G7 (hK29 (Gq ?_)))))))))
   obtain⟨b44,kx44,hb44,hkx44,h⟩:=J3 h
   refine Hd (fun i44 (s44:Unit)=>each b44 kx44 (List.drop i44 s.Covers) i44 s44=some r) (fun i44 s44=>[(56,E4 s.Covers),(57,Eh s.Covers.length),(58,Eh i44)]) (fun i44 s44=>[]) (fun i44=>s.Covers.length - i44) 0 () h ⟨(.sm O O),G,O⟩ ?_
   clear h
   intro i44 s44 hi44 K44 e44
   refine Jr fun hK45=>(JLh (BL (decide ((i44:Int) < (s.Covers.length:Int)))) (Hz O O O) O (G7 (hK45 (Js fun hK46=>Gi O (fun hb=>?_) (fun hb=>?_)))))
   ·
    have hk44:=Jj hb
    obtain⟨y44,nx44,hy44,hn44,h⟩:=Hu hi44 hk44
    replace h:=Z9 hb44 h
    refine Gk (hK46 (Js fun hK47=>Gq (Jr fun hK48=>(JLh (.dptr [I64 y44.Bay,E1 y44.Rows]) (Gw (f:=G9.av) (xs:=s.Covers) (y:=y44) O O O He hy44 O) O (JLh (.agg [I64 y44.Bay,E1 y44.Rows]) (Gh Yk O O O) O (JLh (.ptr 1006 0) (Qo 1006 2 G63 O O) O (Jo (u:=.junk) (Jh (u:=.agg [I64 y44.Bay,E1 y44.Rows]) (ds:=[I64 y44.Bay,E1 y44.Rows]) Gb9 O O O O O O O O) (G7 (hK48 (Gx [(12,.dptr [I64 y44.Bay,E1 y44.Rows]),(56,E4 s.Covers),(57,Eh s.Covers.length),(58,Eh i44)] [] 1006 rfl rfl rfl G rfl (by repeat' (first | exact .ptr | constructor)) ?_))))))))))
    refine Jr fun hK49=>(JLh (.dptr [E1 y44.Rows]) (Ga Q5 O O O) O (JLh (E1 y44.Rows) (Gf Hw O O O) O (JLl Gs O O O fun hm64=>(JLh (BL (decide (40 < (y44.Rows.length:Int)))) (G30 O O O) O (G7 (hK49 (JCc O h (fun h hb=>?_) (fun h hb=>?_))))))))
    ·
     refine Jr fun hK50=>(JLm (BL false) O (G7 (hK50 (Gn (fin1 BL h)))))
    ·
     refine Gk (hK47 (G2 (JLh (I64 ((i44+1:Nat):Int)) (Hs (Hf hk44 hm57) O O O) O (JLm (I64 ((i44+1:Nat):Int)) O (G7 (e44 _ _ (i44+1) () (app1 hn44 h) (by omega) ⟨(.sm O O),G,rfl⟩))))))
   ·
    have h:=app1 hkx44 (Hv hi44 (Ha hb))
    refine Hn (hK28 (Jr fun hK51=>(JLm (BL true) O (G7 (hK51 (Gn (fin1 BL h)))))))

def G59 :Option H0:=
 some (H0.mk ([(G3.mk 0 0 false 2 0 0 0 0 [] 0 0 0),(G3.mk 0 1 false 2 0 0 0 0 [] 0 0 0),(G3.mk 0 0 true 3 0 0 0 0 [] 0 0 0),(G3.mk 0 1 true 3 0 0 0 0 [] 0 0 0),(G3.mk 1 1 true 4 0 0 0 0 [] 0 0 0)]) ([(G9.mk 0 [0,1])]) (Light.mk 0 0 0 0) [] [] [] (G1.mk 0 0 0 0))
abbrev Ez:List AV:=[E5 ([]:List G3),E4 ([]:List G9),I64 0,I64 0,I64 0,I64 0,E7 ([]:List Row),E6 ([]:List Frame),E8 ([]:List Gg),I64 0,I64 0,I64 0,I64 0]
theorem H40  (r:H0) (h:G59 =some r):Pure Ei 28 [] (·=.agg (H0.cs r)):=by
 unfold G59 at h
 refine Gz [.cell 0 32] Tryz.func28 O O (Jr fun hK1=>(JLh (.ptr 1034 0) (G47 1034 Ez [.slice none 0 0,.slice none 0 0,E0,E0,E0,E0,.slice none 0 0,.slice none 0 0,.slice none 0 0,E0,E0,E0,E0] J14 ⟨.inr ⟨_,O,O⟩,.inr ⟨_,O,O⟩,.inl O,.inl O,.inl O,.inl O,.inr ⟨_,O,O⟩,.inr ⟨_,O,O⟩,.inr ⟨_,O,O⟩,.inl O,.inl O,.inl O,.inl O,G⟩ O O) O (G7 (hK1 ?_))))
 refine Jr fun hK2=>(JLh (.agg [I64 0,I64 0,BL false,I64 2,I64 0,I64 0,I64 0,I64 0,E1 ([]:List Int),I64 0,I64 0,I64 0]) (Jp (cs:=[I64 0,I64 0,BL false,I64 2,I64 0,I64 0,I64 0,I64 0,E1 ([]:List Int),I64 0,I64 0,I64 0]) [(0,1),(1,1),(2,1),(3,1),(4,1),(5,1),(6,1),(7,1),(8,1),(9,1),(10,1),(11,1)] [I64 0,I64 0,BL false,I64 0,I64 0,I64 0,I64 0,I64 0,E1 ([]:List Int),I64 0,I64 0,I64 0] [E0,E0,.bool false,E0,E0,E0,E0,E0,.slice none 0 0,E0,E0,E0] G92 G7e ⟨.inl O,.inl O,.inl O,.inl O,.inl O,.inl O,.inl O,.inl O,.inr ⟨_,O,O⟩,.inl O,.inl O,.inl O,G⟩ O O) O (JLh (.agg [I64 0,I64 1,BL false,I64 2,I64 0,I64 0,I64 0,I64 0,E1 ([]:List Int),I64 0,I64 0,I64 0]) (Jp (cs:=[I64 0,I64 1,BL false,I64 2,I64 0,I64 0,I64 0,I64 0,E1 ([]:List Int),I64 0,I64 0,I64 0]) [(0,1),(1,1),(2,1),(3,1),(4,1),(5,1),(6,1),(7,1),(8,1),(9,1),(10,1),(11,1)] [I64 0,I64 0,BL false,I64 0,I64 0,I64 0,I64 0,I64 0,E1 ([]:List Int),I64 0,I64 0,I64 0] [E0,E0,.bool false,E0,E0,E0,E0,E0,.slice none 0 0,E0,E0,E0] G92 G7e ⟨.inl O,.inl O,.inl O,.inl O,.inl O,.inl O,.inl O,.inl O,.inr ⟨_,O,O⟩,.inl O,.inl O,.inl O,G⟩ O O) O (JLh (.agg [I64 0,I64 0,BL true,I64 3,I64 0,I64 0,I64 0,I64 0,E1 ([]:List Int),I64 0,I64 0,I64 0]) (Jp (cs:=[I64 0,I64 0,BL true,I64 3,I64 0,I64 0,I64 0,I64 0,E1 ([]:List Int),I64 0,I64 0,I64 0]) [(0,1),(1,1),(2,1),(3,1),(4,1),(5,1),(6,1),(7,1),(8,1),(9,1),(10,1),(11,1)] [I64 0,I64 0,BL false,I64 0,I64 0,I64 0,I64 0,I64 0,E1 ([]:List Int),I64 0,I64 0,I64 0] [E0,E0,.bool false,E0,E0,E0,E0,E0,.slice none 0 0,E0,E0,E0] G92 G7e ⟨.inl O,.inl O,.inl O,.inl O,.inl O,.inl O,.inl O,.inl O,.inr ⟨_,O,O⟩,.inl O,.inl O,.inl O,G⟩ O O) O (JLh (.agg [I64 0,I64 1,BL true,I64 3,I64 0,I64 0,I64 0,I64 0,E1 ([]:List Int),I64 0,I64 0,I64 0]) (Jp (cs:=[I64 0,I64 1,BL true,I64 3,I64 0,I64 0,I64 0,I64 0,E1 ([]:List Int),I64 0,I64 0,I64 0]) [(0,1),(1,1),(2,1),(3,1),(4,1),(5,1),(6,1),(7,1),(8,1),(9,1),(10,1),(11,1)] [I64 0,I64 0,BL false,I64 0,I64 0,I64 0,I64 0,I64 0,E1 ([]:List Int),I64 0,I64 0,I64 0] [E0,E0,.bool false,E0,E0,E0,E0,E0,.slice none 0 0,E0,E0,E0] G92 G7e ⟨.inl O,.inl O,.inl O,.inl O,.inl O,.inl O,.inl O,.inl O,.inr ⟨_,O,O⟩,.inl O,.inl O,.inl O,G⟩ O O) O (JLh (.agg [I64 1,I64 1,BL true,I64 4,I64 0,I64 0,I64 0,I64 0,E1 ([]:List Int),I64 0,I64 0,I64 0]) (Jp (cs:=[I64 1,I64 1,BL true,I64 4,I64 0,I64 0,I64 0,I64 0,E1 ([]:List Int),I64 0,I64 0,I64 0]) [(0,1),(1,1),(2,1),(3,1),(4,1),(5,1),(6,1),(7,1),(8,1),(9,1),(10,1),(11,1)] [I64 0,I64 0,BL false,I64 0,I64 0,I64 0,I64 0,I64 0,E1 ([]:List Int),I64 0,I64 0,I64 0] [E0,E0,.bool false,E0,E0,E0,E0,E0,.slice none 0 0,E0,E0,E0] G92 G7e ⟨.inl O,.inl O,.inl O,.inl O,.inl O,.inl O,.inl O,.inl O,.inr ⟨_,O,O⟩,.inl O,.inl O,.inl O,G⟩ O O) O (JLh (E5 ([(G3.mk 0 0 false 2 0 0 0 0 [] 0 0 0),(G3.mk 0 1 false 2 0 0 0 0 [] 0 0 0),(G3.mk 0 0 true 3 0 0 0 0 [] 0 0 0),(G3.mk 0 1 true 3 0 0 0 0 [] 0 0 0),(G3.mk 1 1 true 4 0 0 0 0 [] 0 0 0)])) (Hj (xs:=[.agg [I64 0,I64 0,BL false,I64 2,I64 0,I64 0,I64 0,I64 0,E1 ([]:List Int),I64 0,I64 0,I64 0],.agg [I64 0,I64 1,BL false,I64 2,I64 0,I64 0,I64 0,I64 0,E1 ([]:List Int),I64 0,I64 0,I64 0],.agg [I64 0,I64 0,BL true,I64 3,I64 0,I64 0,I64 0,I64 0,E1 ([]:List Int),I64 0,I64 0,I64 0],.agg [I64 0,I64 1,BL true,I64 3,I64 0,I64 0,I64 0,I64 0,E1 ([]:List Int),I64 0,I64 0,I64 0],.agg [I64 1,I64 1,BL true,I64 4,I64 0,I64 0,I64 0,I64 0,E1 ([]:List Int),I64 0,I64 0,I64 0]]) O ⟨O,O,O,O,O,O,O,O,O,O,G⟩ H4 G7d O O O O) O (JLh (E1 [0,1]) (Hj (xs:=[I64 0,I64 1]) O ⟨O,O,O,O,G⟩ Gs Rw O O O O) O (JLh (.agg [I64 0,E1 [0,1]]) (Jp (cs:=[I64 0,E1 [0,1]]) [(0,1),(1,1)] [I64 0,E1 ([]:List Int)] [E0,.slice none 0 0] J39 H9e ⟨.inl O,.inr ⟨_,O,O⟩,G⟩ O O) O (JLh (E4 ([(G9.mk 0 [0,1])])) (Hj (xs:=[.agg [I64 0,E1 [0,1]]]) O ⟨O,O,G⟩ He G63 O O O O) O (JLh (.agg [E5 ([(G3.mk 0 0 false 2 0 0 0 0 [] 0 0 0),(G3.mk 0 1 false 2 0 0 0 0 [] 0 0 0),(G3.mk 0 0 true 3 0 0 0 0 [] 0 0 0),(G3.mk 0 1 true 3 0 0 0 0 [] 0 0 0),(G3.mk 1 1 true 4 0 0 0 0 [] 0 0 0)]),E4 ([(G9.mk 0 [0,1])]),I64 0,I64 0,I64 0,I64 0,E7 ([]:List Row),E6 ([]:List Frame),E8 ([]:List Gg),I64 0,I64 0,I64 0,I64 0]) (Jp (cs:=[E5 ([(G3.mk 0 0 false 2 0 0 0 0 [] 0 0 0),(G3.mk 0 1 false 2 0 0 0 0 [] 0 0 0),(G3.mk 0 0 true 3 0 0 0 0 [] 0 0 0),(G3.mk 0 1 true 3 0 0 0 0 [] 0 0 0),(G3.mk 1 1 true 4 0 0 0 0 [] 0 0 0)]),E4 ([(G9.mk 0 [0,1])]),I64 0,I64 0,I64 0,I64 0,E7 ([]:List Row),E6 ([]:List Frame),E8 ([]:List Gg),I64 0,I64 0,I64 0,I64 0]) [(0,1),(1,1),(2,4),(6,1),(7,1),(8,1),(9,4)] Ez [.slice none 0 0,.slice none 0 0,E0,E0,E0,E0,.slice none 0 0,.slice none 0 0,.slice none 0 0,E0,E0,E0,E0] Q74 J14 ⟨.inr ⟨_,O,O⟩,.inr ⟨_,O,O⟩,.inl O,.inl O,.inl O,.inl O,.inr ⟨_,O,O⟩,.inr ⟨_,O,O⟩,.inr ⟨_,O,O⟩,.inl O,.inl O,.inl O,.inl O,G⟩ O O) O (Jo (u:=.junk) (Jh (u:=.agg [E5 ([(G3.mk 0 0 false 2 0 0 0 0 [] 0 0 0),(G3.mk 0 1 false 2 0 0 0 0 [] 0 0 0),(G3.mk 0 0 true 3 0 0 0 0 [] 0 0 0),(G3.mk 0 1 true 3 0 0 0 0 [] 0 0 0),(G3.mk 1 1 true 4 0 0 0 0 [] 0 0 0)]),E4 ([(G9.mk 0 [0,1])]),I64 0,I64 0,I64 0,I64 0,E7 ([]:List Row),E6 ([]:List Frame),E8 ([]:List Gg),I64 0,I64 0,I64 0,I64 0]) (ds:=[E5 ([(G3.mk 0 0 false 2 0 0 0 0 [] 0 0 0),(G3.mk 0 1 false 2 0 0 0 0 [] 0 0 0),(G3.mk 0 0 true 3 0 0 0 0 [] 0 0 0),(G3.mk 0 1 true 3 0 0 0 0 [] 0 0 0),(G3.mk 1 1 true 4 0 0 0 0 [] 0 0 0)]),E4 ([(G9.mk 0 [0,1])]),I64 0,I64 0,I64 0,I64 0,E7 ([]:List Row),E6 ([]:List Frame),E8 ([]:List Gg),I64 0,I64 0,I64 0,I64 0]) Ha0 O O O O O O O O) (G7 (hK2 ?_)))))))))))))
 refine Gn (⟨[.agg [E5 ([(G3.mk 0 0 false 2 0 0 0 0 [] 0 0 0),(G3.mk 0 1 false 2 0 0 0 0 [] 0 0 0),(G3.mk 0 0 true 3 0 0 0 0 [] 0 0 0),(G3.mk 0 1 true 3 0 0 0 0 [] 0 0 0),(G3.mk 1 1 true 4 0 0 0 0 [] 0 0 0)]),E4 ([(G9.mk 0 [0,1])]),I64 0,I64 0,I64 0,I64 0,E7 ([]:List Row),E6 ([]:List Frame),E8 ([]:List Gg),I64 0,I64 0,I64 0,I64 0]],[],G,O,⟨⟨_,⟨_,_,_,_,O,O,O,.inl ⟨Hc,O⟩⟩,.conv (.same O)⟩,G⟩,O,congrArg (fun r:H0=>(.agg (H0.cs r):AV)) (Option.some.inj h)⟩)

def R5 (box:Int) (column:Int) (tier:Int) (half:Int):Option Stowed:=
 some (Stowed.mk box (Slot.mk column tier half))
theorem Y0 (box:Int) (column:Int) (tier:Int) (half:Int) (r:Stowed) (h:R5 box column tier half=some r):Pure Ei 29 [I64 box,I64 column,I64 tier,U8 half] (·=.agg (Stowed.cs r)):=by
 unfold R5 at h
 refine Gz [.cell 8 39] Tryz.func29 O O (Jr fun hK1=>(JLh (.ptr 1035 0) (G47 1035 [I64 0,I64 0,I64 0,U8 0] [E0,E0,E0,.int .u8 0] H9f ⟨.inl O,.inl O,.inl O,.inl O,G⟩ O O) O (G7 (hK1 ?_))))
 refine Jr fun hK2=>(JLm (I64 box) O (JLm (I64 column) O (JLm (I64 tier) O (JLm (U8 half) O (JLh (.agg [I64 column,I64 tier,U8 half]) (Jp (cs:=[I64 column,I64 tier,U8 half]) [(0,1),(1,1),(2,1)] [I64 0,I64 0,U8 0] [E0,E0,.int .u8 0] J3b Jbe ⟨.inl O,.inl O,.inl O,G⟩ O O) O (JLh (.agg [I64 box,I64 column,I64 tier,U8 half]) (Jp (cs:=[I64 box,I64 column,I64 tier,U8 half]) [(0,1),(1,3)] [I64 0,I64 0,I64 0,U8 0] [E0,E0,E0,.int .u8 0] J3a H9f ⟨.inl O,.inl O,.inl O,.inl O,G⟩ O O) O (Jo (u:=.junk) (Jh (u:=.agg [I64 box,I64 column,I64 tier,U8 half]) (ds:=[I64 box,I64 column,I64 tier,U8 half]) G7f O O O O O O O O) (G7 (hK2 (Gn ?_))))))))))
 exact⟨[.agg [I64 box,I64 column,I64 tier,U8 half]],[],G,O,⟨⟨_,⟨_,_,_,_,O,O,O,.inl ⟨R6,O⟩⟩,.conv (.same O)⟩,G⟩,O,congrArg (fun r:Stowed=>(.agg (Stowed.cs r):AV)) (Option.some.inj h)⟩

def Ys (F:Nat) :Option Bool:=
 bnd (G59) fun r3=>
 bnd (R5 1 0 0 0) fun r6=>
 bnd (R5 2 0 1 0) fun r7=>
 bnd (R5 3 2 1 0) fun r8=>
 bnd (R5 6 2 0 1) fun r9=>
 bnd (R5 7 2 0 2) fun r10=>
 bnd (G35 F r3 [(Box.mk 1 ByteArray.empty 40 false 0 0 0 0 false),(Box.mk 2 ByteArray.empty 40 false 0 0 0 0 false),(Box.mk 3 ByteArray.empty 40 false 0 0 0 0 false),(Box.mk 4 ByteArray.empty 40 false 0 0 0 0 false),(Box.mk 5 ByteArray.empty 40 false 0 0 0 0 false),(Box.mk 6 ByteArray.empty 20 false 0 0 0 0 false),(Box.mk 7 ByteArray.empty 20 false 0 0 0 0 false)] [r6,r7,r8,r9,r10] [1]) fun r12=>
 bnd (G35 F r3 [(Box.mk 1 ByteArray.empty 40 false 0 0 0 0 false),(Box.mk 2 ByteArray.empty 40 false 0 0 0 0 false),(Box.mk 3 ByteArray.empty 40 false 0 0 0 0 false),(Box.mk 4 ByteArray.empty 40 false 0 0 0 0 false),(Box.mk 5 ByteArray.empty 40 false 0 0 0 0 false),(Box.mk 6 ByteArray.empty 20 false 0 0 0 0 false),(Box.mk 7 ByteArray.empty 20 false 0 0 0 0 false)] [r6,r7,r8,r9,r10] [2]) fun r14=>
 bnd (G35 F r3 [(Box.mk 1 ByteArray.empty 40 false 0 0 0 0 false),(Box.mk 2 ByteArray.empty 40 false 0 0 0 0 false),(Box.mk 3 ByteArray.empty 40 false 0 0 0 0 false),(Box.mk 4 ByteArray.empty 40 false 0 0 0 0 false),(Box.mk 5 ByteArray.empty 40 false 0 0 0 0 false),(Box.mk 6 ByteArray.empty 20 false 0 0 0 0 false),(Box.mk 7 ByteArray.empty 20 false 0 0 0 0 false)] [r6,r7,r8,r9,r10] [7]) fun r16=>
 bnd (G24 F r3 [(Box.mk 1 ByteArray.empty 40 false 0 0 0 0 false),(Box.mk 2 ByteArray.empty 40 false 0 0 0 0 false),(Box.mk 3 ByteArray.empty 40 false 0 0 0 0 false),(Box.mk 4 ByteArray.empty 40 false 0 0 0 0 false),(Box.mk 5 ByteArray.empty 40 false 0 0 0 0 false),(Box.mk 6 ByteArray.empty 20 false 0 0 0 0 false),(Box.mk 7 ByteArray.empty 20 false 0 0 0 0 false)] [r6,r7,r8,r9,r10] [] 0) fun r18=>
 bnd (R5 4 2 2 0) fun r20=>
 bnd (G0b F r3 [(Box.mk 1 ByteArray.empty 40 false 0 0 0 0 false),(Box.mk 2 ByteArray.empty 40 false 0 0 0 0 false),(Box.mk 3 ByteArray.empty 40 false 0 0 0 0 false),(Box.mk 4 ByteArray.empty 40 false 0 0 0 0 false),(Box.mk 5 ByteArray.empty 40 false 0 0 0 0 false),(Box.mk 6 ByteArray.empty 20 false 0 0 0 0 false),(Box.mk 7 ByteArray.empty 20 false 0 0 0 0 false)] [r6,r7,r8,r9,r10] [] r20) fun r21=>
 bnd (R5 5 3 1 0) fun r23=>
 bnd (G0b F r3 [(Box.mk 1 ByteArray.empty 40 false 0 0 0 0 false),(Box.mk 2 ByteArray.empty 40 false 0 0 0 0 false),(Box.mk 3 ByteArray.empty 40 false 0 0 0 0 false),(Box.mk 4 ByteArray.empty 40 false 0 0 0 0 false),(Box.mk 5 ByteArray.empty 40 false 0 0 0 0 false),(Box.mk 6 ByteArray.empty 20 false 0 0 0 0 false),(Box.mk 7 ByteArray.empty 20 false 0 0 0 0 false)] [r6,r7,r8,r9,r10] [] r23) fun r24=>
 bnd (G1b r3 [(Box.mk 1 ByteArray.empty 40 false 0 0 0 0 false),(Box.mk 2 ByteArray.empty 40 false 0 0 0 0 false),(Box.mk 3 ByteArray.empty 40 false 0 0 0 0 false),(Box.mk 4 ByteArray.empty 40 false 0 0 0 0 false),(Box.mk 5 ByteArray.empty 40 false 0 0 0 0 false),(Box.mk 6 ByteArray.empty 20 false 0 0 0 0 false),(Box.mk 7 ByteArray.empty 20 false 0 0 0 0 false)] [r6,r7,r8,r9,r10]) fun r26=>
 bnd (bif r26 then chk (r12.2+r14.2) some else some 0) fun v27=>
 bnd (bif r26 then chk (v27+r16.2) some else some 0) fun v28=>
 bnd (bif r26 then chk (v28+r21.2) some else some 0) fun v29=>
 bnd (bif (r26&&(decide (v29=0))) then Ji r12.1 [1,2,3,6,7] else some default) fun r30=>
 bnd (bif ((r26&&(decide (v29=0)))&&r30) then Ji r14.1 [2,3,6,7] else some default) fun r31=>
 bnd (bif (((r26&&(decide (v29=0)))&&r30)&&r31) then Ji r16.1 [3,7] else some default) fun r32=>
 bnd (bif (((((((r26&&(decide (v29=0)))&&r30)&&r31)&&r32)&&(decide (r18.2=95)))&&(decide ((r21.1.length:Int)=6)))&&(decide (r24.2=93))) then G54 r3 [(Box.mk 1 ByteArray.empty 40 false 0 0 0 0 false),(Box.mk 2 ByteArray.empty 40 false 0 0 0 0 false),(Box.mk 3 ByteArray.empty 40 false 0 0 0 0 false),(Box.mk 4 ByteArray.empty 40 false 0 0 0 0 false),(Box.mk 5 ByteArray.empty 40 false 0 0 0 0 false),(Box.mk 6 ByteArray.empty 20 false 0 0 0 0 false),(Box.mk 7 ByteArray.empty 20 false 0 0 0 0 false)] [r6,r7,r8,r9,r10] [] 2 else some default) fun r33=>
 bnd (bif ((((((((r26&&(decide (v29=0)))&&r30)&&r31)&&r32)&&(decide (r18.2=95)))&&(decide ((r21.1.length:Int)=6)))&&(decide (r24.2=93)))&&(decide (r33=91))) then G54 r3 [(Box.mk 1 ByteArray.empty 40 false 0 0 0 0 false),(Box.mk 2 ByteArray.empty 40 false 0 0 0 0 false),(Box.mk 3 ByteArray.empty 40 false 0 0 0 0 false),(Box.mk 4 ByteArray.empty 40 false 0 0 0 0 false),(Box.mk 5 ByteArray.empty 40 false 0 0 0 0 false),(Box.mk 6 ByteArray.empty 20 false 0 0 0 0 false),(Box.mk 7 ByteArray.empty 20 false 0 0 0 0 false)] [r6,r7,r8,r9,r10] [] 6 else some default) fun r34=>
 bnd (bif (((((((((r26&&(decide (v29=0)))&&r30)&&r31)&&r32)&&(decide (r18.2=95)))&&(decide ((r21.1.length:Int)=6)))&&(decide (r24.2=93)))&&(decide (r33=91)))&&(decide (r34=90))) then G54 r3 [(Box.mk 1 ByteArray.empty 40 false 0 0 0 0 false),(Box.mk 2 ByteArray.empty 40 false 0 0 0 0 false),(Box.mk 3 ByteArray.empty 40 false 0 0 0 0 false),(Box.mk 4 ByteArray.empty 40 false 0 0 0 0 false),(Box.mk 5 ByteArray.empty 40 false 0 0 0 0 false),(Box.mk 6 ByteArray.empty 20 false 0 0 0 0 false),(Box.mk 7 ByteArray.empty 20 false 0 0 0 0 false)] [r6,r7,r8,r9,r10] [] 3 else some default) fun r35=>
 some ((((((((((r26&&(decide (v29=0)))&&r30)&&r31)&&r32)&&(decide (r18.2=95)))&&(decide ((r21.1.length:Int)=6)))&&(decide (r24.2=93)))&&(decide (r33=91)))&&(decide (r34=90)))&&(decide (r35=0)))
theorem Gac (F:Nat)  (r:Bool) (h:Ys F =some r):Pure Ei 5 [] (·=BL r):=by
 unfold Ys at h
 refine Gz [.tmp 0] Tryz.func5 O O (Jr fun hK1=>(JLm (BL false) O (G7 (hK1 (Jr fun hK2=>?_)))))
 obtain⟨r3,hr3,h⟩:=Gc h
 refine JLh (.agg (H0.cs r3)) (Gm O (H40  r3 hr3) R22 G) O (JLh (.ptr 1007 0) (Qo 1007 13 J75 O O) O (Jo (u:=.junk) (Jh (u:=.agg (H0.cs r3)) (ds:=(H0.cs r3)) Ha0 O O O O O O O O) (G7 (hK2 (Gx [(1,Eb r3)] [] 1007 rfl rfl rfl G rfl (by exact⟨.ptr,G⟩) ?_)))))
 refine Jr fun hK4=>(JLh (.agg [I64 1,ST ByteArray.empty,U8 40,BL false,I64 0,I64 0,I64 0,U8 0,BL false]) (Jp (cs:=[I64 1,ST ByteArray.empty,U8 40,BL false,I64 0,I64 0,I64 0,U8 0,BL false]) [(0,1),(1,1),(2,1),(3,1),(4,1),(5,1),(6,1),(7,1),(8,1)] [I64 0,ST ByteArray.empty,U8 0,BL false,I64 0,I64 0,I64 0,U8 0,BL false] [E0,.string ByteArray.empty,.int .u8 0,.bool false,E0,E0,E0,.int .u8 0,.bool false] G16 G13 ⟨.inl O,.inl O,.inl O,.inl O,.inl O,.inl O,.inl O,.inl O,.inl O,G⟩ O O) O (JLh (.agg [I64 2,ST ByteArray.empty,U8 40,BL false,I64 0,I64 0,I64 0,U8 0,BL false]) (Jp (cs:=[I64 2,ST ByteArray.empty,U8 40,BL false,I64 0,I64 0,I64 0,U8 0,BL false]) [(0,1),(1,1),(2,1),(3,1),(4,1),(5,1),(6,1),(7,1),(8,1)] [I64 0,ST ByteArray.empty,U8 0,BL false,I64 0,I64 0,I64 0,U8 0,BL false] [E0,.string ByteArray.empty,.int .u8 0,.bool false,E0,E0,E0,.int .u8 0,.bool false] G16 G13 ⟨.inl O,.inl O,.inl O,.inl O,.inl O,.inl O,.inl O,.inl O,.inl O,G⟩ O O) O (JLh (.agg [I64 3,ST ByteArray.empty,U8 40,BL false,I64 0,I64 0,I64 0,U8 0,BL false]) (Jp (cs:=[I64 3,ST ByteArray.empty,U8 40,BL false,I64 0,I64 0,I64 0,U8 0,BL false]) [(0,1),(1,1),(2,1),(3,1),(4,1),(5,1),(6,1),(7,1),(8,1)] [I64 0,ST ByteArray.empty,U8 0,BL false,I64 0,I64 0,I64 0,U8 0,BL false] [E0,.string ByteArray.empty,.int .u8 0,.bool false,E0,E0,E0,.int .u8 0,.bool false] G16 G13 ⟨.inl O,.inl O,.inl O,.inl O,.inl O,.inl O,.inl O,.inl O,.inl O,G⟩ O O) O (JLh (.agg [I64 4,ST ByteArray.empty,U8 40,BL false,I64 0,I64 0,I64 0,U8 0,BL false]) (Jp (cs:=[I64 4,ST ByteArray.empty,U8 40,BL false,I64 0,I64 0,I64 0,U8 0,BL false]) [(0,1),(1,1),(2,1),(3,1),(4,1),(5,1),(6,1),(7,1),(8,1)] [I64 0,ST ByteArray.empty,U8 0,BL false,I64 0,I64 0,I64 0,U8 0,BL false] [E0,.string ByteArray.empty,.int .u8 0,.bool false,E0,E0,E0,.int .u8 0,.bool false] G16 G13 ⟨.inl O,.inl O,.inl O,.inl O,.inl O,.inl O,.inl O,.inl O,.inl O,G⟩ O O) O (JLh (.agg [I64 5,ST ByteArray.empty,U8 40,BL false,I64 0,I64 0,I64 0,U8 0,BL false]) (Jp (cs:=[I64 5,ST ByteArray.empty,U8 40,BL false,I64 0,I64 0,I64 0,U8 0,BL false]) [(0,1),(1,1),(2,1),(3,1),(4,1),(5,1),(6,1),(7,1),(8,1)] [I64 0,ST ByteArray.empty,U8 0,BL false,I64 0,I64 0,I64 0,U8 0,BL false] [E0,.string ByteArray.empty,.int .u8 0,.bool false,E0,E0,E0,.int .u8 0,.bool false] G16 G13 ⟨.inl O,.inl O,.inl O,.inl O,.inl O,.inl O,.inl O,.inl O,.inl O,G⟩ O O) O (JLh (.agg [I64 6,ST ByteArray.empty,U8 20,BL false,I64 0,I64 0,I64 0,U8 0,BL false]) (Jp (cs:=[I64 6,ST ByteArray.empty,U8 20,BL false,I64 0,I64 0,I64 0,U8 0,BL false]) [(0,1),(1,1),(2,1),(3,1),(4,1),(5,1),(6,1),(7,1),(8,1)] [I64 0,ST ByteArray.empty,U8 0,BL false,I64 0,I64 0,I64 0,U8 0,BL false] [E0,.string ByteArray.empty,.int .u8 0,.bool false,E0,E0,E0,.int .u8 0,.bool false] G16 G13 ⟨.inl O,.inl O,.inl O,.inl O,.inl O,.inl O,.inl O,.inl O,.inl O,G⟩ O O) O (JLh (.agg [I64 7,ST ByteArray.empty,U8 20,BL false,I64 0,I64 0,I64 0,U8 0,BL false]) (Jp (cs:=[I64 7,ST ByteArray.empty,U8 20,BL false,I64 0,I64 0,I64 0,U8 0,BL false]) [(0,1),(1,1),(2,1),(3,1),(4,1),(5,1),(6,1),(7,1),(8,1)] [I64 0,ST ByteArray.empty,U8 0,BL false,I64 0,I64 0,I64 0,U8 0,BL false] [E0,.string ByteArray.empty,.int .u8 0,.bool false,E0,E0,E0,.int .u8 0,.bool false] G16 G13 ⟨.inl O,.inl O,.inl O,.inl O,.inl O,.inl O,.inl O,.inl O,.inl O,G⟩ O O) O (JLh (E3 [(Box.mk 1 ByteArray.empty 40 false 0 0 0 0 false),(Box.mk 2 ByteArray.empty 40 false 0 0 0 0 false),(Box.mk 3 ByteArray.empty 40 false 0 0 0 0 false),(Box.mk 4 ByteArray.empty 40 false 0 0 0 0 false),(Box.mk 5 ByteArray.empty 40 false 0 0 0 0 false),(Box.mk 6 ByteArray.empty 20 false 0 0 0 0 false),(Box.mk 7 ByteArray.empty 20 false 0 0 0 0 false)]) (Hj (xs:=[.agg [I64 1,ST ByteArray.empty,U8 40,BL false,I64 0,I64 0,I64 0,U8 0,BL false],.agg [I64 2,ST ByteArray.empty,U8 40,BL false,I64 0,I64 0,I64 0,U8 0,BL false],.agg [I64 3,ST ByteArray.empty,U8 40,BL false,I64 0,I64 0,I64 0,U8 0,BL false],.agg [I64 4,ST ByteArray.empty,U8 40,BL false,I64 0,I64 0,I64 0,U8 0,BL false],.agg [I64 5,ST ByteArray.empty,U8 40,BL false,I64 0,I64 0,I64 0,U8 0,BL false],.agg [I64 6,ST ByteArray.empty,U8 20,BL false,I64 0,I64 0,I64 0,U8 0,BL false],.agg [I64 7,ST ByteArray.empty,U8 20,BL false,I64 0,I64 0,I64 0,U8 0,BL false]]) O ⟨O,O,O,O,O,O,O,O,O,O,O,O,O,O,G⟩ Jq G4e O O O O) O (JLm (E3 [(Box.mk 1 ByteArray.empty 40 false 0 0 0 0 false),(Box.mk 2 ByteArray.empty 40 false 0 0 0 0 false),(Box.mk 3 ByteArray.empty 40 false 0 0 0 0 false),(Box.mk 4 ByteArray.empty 40 false 0 0 0 0 false),(Box.mk 5 ByteArray.empty 40 false 0 0 0 0 false),(Box.mk 6 ByteArray.empty 20 false 0 0 0 0 false),(Box.mk 7 ByteArray.empty 20 false 0 0 0 0 false)]) O (G7 (hK4 ?_)))))))))))
 refine Jr fun hK5=>?_
 obtain⟨r6,hr6,h⟩:=Gc h
 refine JLh (.agg (Stowed.cs r6)) (Gm O (Y0 1 0 0 0 r6 hr6) Gbb ⟨O,O,O,O,O,O,O,O,G⟩) O ?_
 obtain⟨r7,hr7,h⟩:=Gc h
 refine JLh (.agg (Stowed.cs r7)) (Gm O (Y0 2 0 1 0 r7 hr7) Gbb ⟨O,O,O,O,O,O,O,O,G⟩) O ?_
 obtain⟨r8,hr8,h⟩:=Gc h
 refine JLh (.agg (Stowed.cs r8)) (Gm O (Y0 3 2 1 0 r8 hr8) Gbb ⟨O,O,O,O,O,O,O,O,G⟩) O ?_
 obtain⟨r9,hr9,h⟩:=Gc h
 refine JLh (.agg (Stowed.cs r9)) (Gm O (Y0 6 2 0 1 r9 hr9) Gbb ⟨O,O,O,O,O,O,O,O,G⟩) O ?_
 obtain⟨r10,hr10,h⟩:=Gc h
 refine JLh (.agg (Stowed.cs r10)) (Gm O (Y0 7 2 0 2 r10 hr10) Gbb ⟨O,O,O,O,O,O,O,O,G⟩) O (JLh (E2 [r6,r7,r8,r9,r10]) (Hj (xs:=[.agg (Stowed.cs r6),.agg (Stowed.cs r7),.agg (Stowed.cs r8),.agg (Stowed.cs r9),.agg (Stowed.cs r10)]) O ⟨O,O,O,O,O,O,O,O,O,O,G⟩ Gt G0f O O O O) O (JLm (E2 [r6,r7,r8,r9,r10]) O (G7 (hK5 ?_))))
 refine Jr fun hK11=>(JLh (.agg (H0.cs r3)) (Gh Hc O O O) O (JLm (E3 [(Box.mk 1 ByteArray.empty 40 false 0 0 0 0 false),(Box.mk 2 ByteArray.empty 40 false 0 0 0 0 false),(Box.mk 3 ByteArray.empty 40 false 0 0 0 0 false),(Box.mk 4 ByteArray.empty 40 false 0 0 0 0 false),(Box.mk 5 ByteArray.empty 40 false 0 0 0 0 false),(Box.mk 6 ByteArray.empty 20 false 0 0 0 0 false),(Box.mk 7 ByteArray.empty 20 false 0 0 0 0 false)]) O (JLm (E2 [r6,r7,r8,r9,r10]) O (JLh (E1 [1]) (Hj (xs:=[I64 1]) O ⟨O,O,G⟩ Gs Rw O O O O) O ?_))))
 obtain⟨r12,hr12,h⟩:=Gc h
 refine JLh (.tup [E1 r12.1,I64 r12.2]) (Gm O (H3e.down F r3 [(Box.mk 1 ByteArray.empty 40 false 0 0 0 0 false),(Box.mk 2 ByteArray.empty 40 false 0 0 0 0 false),(Box.mk 3 ByteArray.empty 40 false 0 0 0 0 false),(Box.mk 4 ByteArray.empty 40 false 0 0 0 0 false),(Box.mk 5 ByteArray.empty 40 false 0 0 0 0 false),(Box.mk 6 ByteArray.empty 20 false 0 0 0 0 false),(Box.mk 7 ByteArray.empty 20 false 0 0 0 0 false)] [r6,r7,r8,r9,r10] [1] r12 hr12) J24 ⟨O,O,O,O,O,O,O,O,G⟩) O (JLm (.tup [E1 r12.1,I64 r12.2]) O (JLh (E1 r12.1) (Hk O O O) O (JLh (I64 r12.2) (Hk O O O) O (JLm (E1 r12.1) O (JLm (I64 r12.2) O (G7 (hK11 ?_)))))))
 refine Jr fun hK13=>(JLh (.agg (H0.cs r3)) (Gh Hc O O O) O (JLm (E3 [(Box.mk 1 ByteArray.empty 40 false 0 0 0 0 false),(Box.mk 2 ByteArray.empty 40 false 0 0 0 0 false),(Box.mk 3 ByteArray.empty 40 false 0 0 0 0 false),(Box.mk 4 ByteArray.empty 40 false 0 0 0 0 false),(Box.mk 5 ByteArray.empty 40 false 0 0 0 0 false),(Box.mk 6 ByteArray.empty 20 false 0 0 0 0 false),(Box.mk 7 ByteArray.empty 20 false 0 0 0 0 false)]) O (JLm (E2 [r6,r7,r8,r9,r10]) O (JLh (E1 [2]) (Hj (xs:=[I64 2]) O ⟨O,O,G⟩ Gs Rw O O O O) O ?_))))
 obtain⟨r14,hr14,h⟩:=Gc h
 refine JLh (.tup [E1 r14.1,I64 r14.2]) (Gm O (H3e.down F r3 [(Box.mk 1 ByteArray.empty 40 false 0 0 0 0 false),(Box.mk 2 ByteArray.empty 40 false 0 0 0 0 false),(Box.mk 3 ByteArray.empty 40 false 0 0 0 0 false),(Box.mk 4 ByteArray.empty 40 false 0 0 0 0 false),(Box.mk 5 ByteArray.empty 40 false 0 0 0 0 false),(Box.mk 6 ByteArray.empty 20 false 0 0 0 0 false),(Box.mk 7 ByteArray.empty 20 false 0 0 0 0 false)] [r6,r7,r8,r9,r10] [2] r14 hr14) J24 ⟨O,O,O,O,O,O,O,O,G⟩) O (JLm (.tup [E1 r14.1,I64 r14.2]) O (JLh (E1 r14.1) (Hk O O O) O (JLh (I64 r14.2) (Hk O O O) O (JLm (E1 r14.1) O (JLm (I64 r14.2) O (G7 (hK13 ?_)))))))
 refine Jr fun hK15=>(JLh (.agg (H0.cs r3)) (Gh Hc O O O) O (JLm (E3 [(Box.mk 1 ByteArray.empty 40 false 0 0 0 0 false),(Box.mk 2 ByteArray.empty 40 false 0 0 0 0 false),(Box.mk 3 ByteArray.empty 40 false 0 0 0 0 false),(Box.mk 4 ByteArray.empty 40 false 0 0 0 0 false),(Box.mk 5 ByteArray.empty 40 false 0 0 0 0 false),(Box.mk 6 ByteArray.empty 20 false 0 0 0 0 false),(Box.mk 7 ByteArray.empty 20 false 0 0 0 0 false)]) O (JLm (E2 [r6,r7,r8,r9,r10]) O (JLh (E1 [7]) (Hj (xs:=[I64 7]) O ⟨O,O,G⟩ Gs Rw O O O O) O ?_))))
 obtain⟨r16,hr16,h⟩:=Gc h
 refine JLh (.tup [E1 r16.1,I64 r16.2]) (Gm O (H3e.down F r3 [(Box.mk 1 ByteArray.empty 40 false 0 0 0 0 false),(Box.mk 2 ByteArray.empty 40 false 0 0 0 0 false),(Box.mk 3 ByteArray.empty 40 false 0 0 0 0 false),(Box.mk 4 ByteArray.empty 40 false 0 0 0 0 false),(Box.mk 5 ByteArray.empty 40 false 0 0 0 0 false),(Box.mk 6 ByteArray.empty 20 false 0 0 0 0 false),(Box.mk 7 ByteArray.empty 20 false 0 0 0 0 false)] [r6,r7,r8,r9,r10] [7] r16 hr16) J24 ⟨O,O,O,O,O,O,O,O,G⟩) O (JLm (.tup [E1 r16.1,I64 r16.2]) O (JLh (E1 r16.1) (Hk O O O) O (JLh (I64 r16.2) (Hk O O O) O (JLm (E1 r16.1) O (JLm (I64 r16.2) O (G7 (hK15 ?_)))))))
 refine Jr fun hK17=>(JLh (.agg (H0.cs r3)) (Gh Hc O O O) O (JLm (E3 [(Box.mk 1 ByteArray.empty 40 false 0 0 0 0 false),(Box.mk 2 ByteArray.empty 40 false 0 0 0 0 false),(Box.mk 3 ByteArray.empty 40 false 0 0 0 0 false),(Box.mk 4 ByteArray.empty 40 false 0 0 0 0 false),(Box.mk 5 ByteArray.empty 40 false 0 0 0 0 false),(Box.mk 6 ByteArray.empty 20 false 0 0 0 0 false),(Box.mk 7 ByteArray.empty 20 false 0 0 0 0 false)]) O (JLm (E2 [r6,r7,r8,r9,r10]) O ?_)))
 obtain⟨r18,hr18,h⟩:=Gc h
 refine JLh (.tup [E1 r18.1,I64 r18.2]) (H4a (args:=[.agg (H0.cs r3),E3 [(Box.mk 1 ByteArray.empty 40 false 0 0 0 0 false),(Box.mk 2 ByteArray.empty 40 false 0 0 0 0 false),(Box.mk 3 ByteArray.empty 40 false 0 0 0 0 false),(Box.mk 4 ByteArray.empty 40 false 0 0 0 0 false),(Box.mk 5 ByteArray.empty 40 false 0 0 0 0 false),(Box.mk 6 ByteArray.empty 20 false 0 0 0 0 false),(Box.mk 7 ByteArray.empty 20 false 0 0 0 0 false)],E2 [r6,r7,r8,r9,r10],E1 ([]:List Int),I64 0]) O (Q34 F r3 [(Box.mk 1 ByteArray.empty 40 false 0 0 0 0 false),(Box.mk 2 ByteArray.empty 40 false 0 0 0 0 false),(Box.mk 3 ByteArray.empty 40 false 0 0 0 0 false),(Box.mk 4 ByteArray.empty 40 false 0 0 0 0 false),(Box.mk 5 ByteArray.empty 40 false 0 0 0 0 false),(Box.mk 6 ByteArray.empty 20 false 0 0 0 0 false),(Box.mk 7 ByteArray.empty 20 false 0 0 0 0 false)] [r6,r7,r8,r9,r10] [] 0 r18 hr18) Jdf ⟨.inl O,O,.inl O,O,.inl O,O,.inr ⟨_,O,O⟩,O,.inl O,O,G⟩) O (JLm (.tup [E1 r18.1,I64 r18.2]) O (JLh (E1 r18.1) (Hk O O O) O (JLh (I64 r18.2) (Hk O O O) O (JLm (E1 r18.1) O (JLm (I64 r18.2) O (G7 (hK17 ?_)))))))
 refine Js fun hK19=>?_
 obtain⟨r20,hr20,h⟩:=Gc h
 obtain⟨r21,hr21,h⟩:=Gc h
 refine JC_d0 J6 (by kernel_rfl) (Dq (.agg (H0.cs r3)) (Gh Hc O O O) O (Dq (E3 [(Box.mk 1 ByteArray.empty 40 false 0 0 0 0 false),(Box.mk 2 ByteArray.empty 40 false 0 0 0 0 false),(Box.mk 3 ByteArray.empty 40 false 0 0 0 0 false),(Box.mk 4 ByteArray.empty 40 false 0 0 0 0 false),(Box.mk 5 ByteArray.empty 40 false 0 0 0 0 false),(Box.mk 6 ByteArray.empty 20 false 0 0 0 0 false),(Box.mk 7 ByteArray.empty 20 false 0 0 0 0 false)]) (G4 O O) O (Dq (E2 [r6,r7,r8,r9,r10]) (G4 O O) O (Dq (.agg (Stowed.cs r20)) (Gm (args:=[I64 4,I64 2,I64 2,U8 0]) O (Y0 4 2 2 0 r20 hr20) Gbb ⟨O,O,O,O,O,O,O,O,G⟩) O (Dq (.tup [E2 r21.1,I64 r21.2]) (H4a (args:=[.agg (H0.cs r3),E3 [(Box.mk 1 ByteArray.empty 40 false 0 0 0 0 false),(Box.mk 2 ByteArray.empty 40 false 0 0 0 0 false),(Box.mk 3 ByteArray.empty 40 false 0 0 0 0 false),(Box.mk 4 ByteArray.empty 40 false 0 0 0 0 false),(Box.mk 5 ByteArray.empty 40 false 0 0 0 0 false),(Box.mk 6 ByteArray.empty 20 false 0 0 0 0 false),(Box.mk 7 ByteArray.empty 20 false 0 0 0 0 false)],E2 [r6,r7,r8,r9,r10],E1 ([]:List Int),.agg (Stowed.cs r20)]) O (J57 F r3 [(Box.mk 1 ByteArray.empty 40 false 0 0 0 0 false),(Box.mk 2 ByteArray.empty 40 false 0 0 0 0 false),(Box.mk 3 ByteArray.empty 40 false 0 0 0 0 false),(Box.mk 4 ByteArray.empty 40 false 0 0 0 0 false),(Box.mk 5 ByteArray.empty 40 false 0 0 0 0 false),(Box.mk 6 ByteArray.empty 20 false 0 0 0 0 false),(Box.mk 7 ByteArray.empty 20 false 0 0 0 0 false)] [r6,r7,r8,r9,r10] [] r20 r21 hr21) J25 ⟨.inl O,O,.inl O,O,.inl O,O,.inr ⟨_,O,O⟩,O,.inl O,O,G⟩) O (Dq (.tup [E2 r21.1,I64 r21.2]) (G4 O O) O (Dq (E2 r21.1) (Hk O O O) O (Dq (I64 r21.2) (Hk O O O) O (Dq (E2 r21.1) (G6 O O) O (Dq (I64 r21.2) (G6 O O) O (Dnil ?_)))))))))))
 refine hK19 (Js fun hK22=>?_)
 obtain⟨r23,hr23,h⟩:=Gc h
 obtain⟨r24,hr24,h⟩:=Gc h
 refine JC_d0 J6 (by kernel_rfl) (Dq (.agg (H0.cs r3)) (Gh Hc O O O) O (Dq (E3 [(Box.mk 1 ByteArray.empty 40 false 0 0 0 0 false),(Box.mk 2 ByteArray.empty 40 false 0 0 0 0 false),(Box.mk 3 ByteArray.empty 40 false 0 0 0 0 false),(Box.mk 4 ByteArray.empty 40 false 0 0 0 0 false),(Box.mk 5 ByteArray.empty 40 false 0 0 0 0 false),(Box.mk 6 ByteArray.empty 20 false 0 0 0 0 false),(Box.mk 7 ByteArray.empty 20 false 0 0 0 0 false)]) (G4 O O) O (Dq (E2 [r6,r7,r8,r9,r10]) (G4 O O) O (Dq (.agg (Stowed.cs r23)) (Gm (args:=[I64 5,I64 3,I64 1,U8 0]) O (Y0 5 3 1 0 r23 hr23) Gbb ⟨O,O,O,O,O,O,O,O,G⟩) O (Dq (.tup [E2 r24.1,I64 r24.2]) (H4a (args:=[.agg (H0.cs r3),E3 [(Box.mk 1 ByteArray.empty 40 false 0 0 0 0 false),(Box.mk 2 ByteArray.empty 40 false 0 0 0 0 false),(Box.mk 3 ByteArray.empty 40 false 0 0 0 0 false),(Box.mk 4 ByteArray.empty 40 false 0 0 0 0 false),(Box.mk 5 ByteArray.empty 40 false 0 0 0 0 false),(Box.mk 6 ByteArray.empty 20 false 0 0 0 0 false),(Box.mk 7 ByteArray.empty 20 false 0 0 0 0 false)],E2 [r6,r7,r8,r9,r10],E1 ([]:List Int),.agg (Stowed.cs r23)]) O (J57 F r3 [(Box.mk 1 ByteArray.empty 40 false 0 0 0 0 false),(Box.mk 2 ByteArray.empty 40 false 0 0 0 0 false),(Box.mk 3 ByteArray.empty 40 false 0 0 0 0 false),(Box.mk 4 ByteArray.empty 40 false 0 0 0 0 false),(Box.mk 5 ByteArray.empty 40 false 0 0 0 0 false),(Box.mk 6 ByteArray.empty 20 false 0 0 0 0 false),(Box.mk 7 ByteArray.empty 20 false 0 0 0 0 false)] [r6,r7,r8,r9,r10] [] r23 r24 hr24) J25 ⟨.inl O,O,.inl O,O,.inl O,O,.inr ⟨_,O,O⟩,O,.inl O,O,G⟩) O (Dq (.tup [E2 r24.1,I64 r24.2]) (G4 O O) O (Dq (E2 r24.1) (Hk O O O) O (Dq (I64 r24.2) (Hk O O O) O (Dq (E2 r24.1) (G6 O O) O (Dq (I64 r24.2) (G6 O O) O (Dnil ?_)))))))))))
 refine hK22 (Jr fun hK25=>(JLh (.agg (H0.cs r3)) (Gh Hc O O O) O (JLm (E3 [(Box.mk 1 ByteArray.empty 40 false 0 0 0 0 false),(Box.mk 2 ByteArray.empty 40 false 0 0 0 0 false),(Box.mk 3 ByteArray.empty 40 false 0 0 0 0 false),(Box.mk 4 ByteArray.empty 40 false 0 0 0 0 false),(Box.mk 5 ByteArray.empty 40 false 0 0 0 0 false),(Box.mk 6 ByteArray.empty 20 false 0 0 0 0 false),(Box.mk 7 ByteArray.empty 20 false 0 0 0 0 false)]) O (JLm (E2 [r6,r7,r8,r9,r10]) O ?_))))
 obtain⟨r26,hr26,h⟩:=Gc h
 refine JLh (BL r26) (Gm O (Hee r3 [(Box.mk 1 ByteArray.empty 40 false 0 0 0 0 false),(Box.mk 2 ByteArray.empty 40 false 0 0 0 0 false),(Box.mk 3 ByteArray.empty 40 false 0 0 0 0 false),(Box.mk 4 ByteArray.empty 40 false 0 0 0 0 false),(Box.mk 5 ByteArray.empty 40 false 0 0 0 0 false),(Box.mk 6 ByteArray.empty 20 false 0 0 0 0 false),(Box.mk 7 ByteArray.empty 20 false 0 0 0 0 false)] [r6,r7,r8,r9,r10] r26 hr26) Jdd ⟨O,O,O,O,O,O,G⟩) O (JLm (BL r26) O (JLo (I64 r12.2) [] O .sct G (fun hc=>G4 O O) O (JLo (I64 r14.2) [] O .sct G (fun hc=>G4 O O) O ?_)))
 obtain⟨v27,hv27,h⟩:=Gc h
 refine JLo (I64 v27) [83,84] O .sct ⟨Ua,Ua,G⟩ (fun hc=>Hs (Zo (Gu hc hv27)) O O O) O (JLo (I64 r16.2) [] O .sct G (fun hc=>G4 O O) O ?_)
 obtain⟨v28,hv28,h⟩:=Gc h
 refine JLo (I64 v28) [85,86] O .sct ⟨Ua,Ua,G⟩ (fun hc=>Hs (Zo (Gu hc hv28)) O O O) O (JLo (I64 r21.2) [] O .sct G (fun hc=>G4 O O) O ?_)
 obtain⟨v29,hv29,h⟩:=Gc h
 refine JLo (I64 v29) [87,88] O .sct ⟨Ua,Ua,G⟩ (fun hc=>Hs (Zo (Gu hc hv29)) O O O) O (JLo (BL (decide (v29=0))) [89] O .sct ⟨Ua,G⟩ (fun hc=>Jw O O O) O (JLh (BL (r26&&(decide (v29=0)))) (Hy O O O O) O (JLm (BL (r26&&(decide (v29=0)))) O (JLo (E1 r12.1) [] O .sct G (fun hc=>G4 O O) O (JLo (E1 [1,2,3,6,7]) [] O .sct G (fun hc=>Hj (xs:=[I64 1,I64 2,I64 3,I64 6,I64 7]) O ⟨O,O,O,O,O,O,O,O,O,O,G⟩ Gs Rw O O O O) O ?_)))))
 obtain⟨r30,hr30,h⟩:=Gc h
 refine JLo (BL r30) [93,94] O .sct ⟨Ua,Ua,G⟩ (fun hc=>Gm (args:=[E1 r12.1,E1 [1,2,3,6,7]]) O (Qh r12.1 [1,2,3,6,7] r30 (Gu hc hr30)) G82 ⟨O,O,O,O,G⟩) O (JLh (BL ((r26&&(decide (v29=0)))&&r30)) (Hy O O O O) O (JLm (BL ((r26&&(decide (v29=0)))&&r30)) O (JLo (E1 r14.1) [] O .sct G (fun hc=>G4 O O) O (JLo (E1 [2,3,6,7]) [] O .sct G (fun hc=>Hj (xs:=[I64 2,I64 3,I64 6,I64 7]) O ⟨O,O,O,O,O,O,O,O,G⟩ Gs Rw O O O O) O ?_))))
 obtain⟨r31,hr31,h⟩:=Gc h
 refine JLo (BL r31) [98,99] O .sct ⟨Ua,Ua,G⟩ (fun hc=>Gm (args:=[E1 r14.1,E1 [2,3,6,7]]) O (Qh r14.1 [2,3,6,7] r31 (Gu hc hr31)) G82 ⟨O,O,O,O,G⟩) O (JLh (BL (((r26&&(decide (v29=0)))&&r30)&&r31)) (Hy O O O O) O (JLm (BL (((r26&&(decide (v29=0)))&&r30)&&r31)) O (JLo (E1 r16.1) [] O .sct G (fun hc=>G4 O O) O (JLo (E1 [3,7]) [] O .sct G (fun hc=>Hj (xs:=[I64 3,I64 7]) O ⟨O,O,O,O,G⟩ Gs Rw O O O O) O ?_))))
 obtain⟨r32,hr32,h⟩:=Gc h
 refine JLo (BL r32) [103,104] O .sct ⟨Ua,Ua,G⟩ (fun hc=>Gm (args:=[E1 r16.1,E1 [3,7]]) O (Qh r16.1 [3,7] r32 (Gu hc hr32)) G82 ⟨O,O,O,O,G⟩) O (JLh (BL ((((r26&&(decide (v29=0)))&&r30)&&r31)&&r32)) (Hy O O O O) O (JLm (BL ((((r26&&(decide (v29=0)))&&r30)&&r31)&&r32)) O (JLo (I64 r18.2) [] O .sct G (fun hc=>G4 O O) O (JLo (BL (decide (r18.2=95))) [108] O .sct ⟨Ua,G⟩ (fun hc=>Jw O O O) O (JLh (BL (((((r26&&(decide (v29=0)))&&r30)&&r31)&&r32)&&(decide (r18.2=95)))) (Hy O O O O) O (JLm (BL (((((r26&&(decide (v29=0)))&&r30)&&r31)&&r32)&&(decide (r18.2=95)))) O (JLo (E2 r21.1) [] O .sct G (fun hc=>G4 O O) O (JLo (Eh r21.1.length) [112] O .sct ⟨Ua,G⟩ (fun hc=>Qe (f:=Stowed.av) (xs:=r21.1) Gt O O) O (JLo (BL (decide ((r21.1.length:Int)=6))) [113] O .sct ⟨Ua,G⟩ (fun hc=>Jw O O O) O (JLh (BL ((((((r26&&(decide (v29=0)))&&r30)&&r31)&&r32)&&(decide (r18.2=95)))&&(decide ((r21.1.length:Int)=6)))) (Hy O O O O) O (JLm (BL ((((((r26&&(decide (v29=0)))&&r30)&&r31)&&r32)&&(decide (r18.2=95)))&&(decide ((r21.1.length:Int)=6)))) O (JLo (I64 r24.2) [] O .sct G (fun hc=>G4 O O) O (JLo (BL (decide (r24.2=93))) [117] O .sct ⟨Ua,G⟩ (fun hc=>Jw O O O) O ?_)))))))))))))
 refine JLh (BL (((((((r26&&(decide (v29=0)))&&r30)&&r31)&&r32)&&(decide (r18.2=95)))&&(decide ((r21.1.length:Int)=6)))&&(decide (r24.2=93)))) (Hy O O O O) O (JLm (BL (((((((r26&&(decide (v29=0)))&&r30)&&r31)&&r32)&&(decide (r18.2=95)))&&(decide ((r21.1.length:Int)=6)))&&(decide (r24.2=93)))) O (JLo (.agg (H0.cs r3)) [] O .sct G (fun hc=>Gh Hc O O O) O (JLo (E3 [(Box.mk 1 ByteArray.empty 40 false 0 0 0 0 false),(Box.mk 2 ByteArray.empty 40 false 0 0 0 0 false),(Box.mk 3 ByteArray.empty 40 false 0 0 0 0 false),(Box.mk 4 ByteArray.empty 40 false 0 0 0 0 false),(Box.mk 5 ByteArray.empty 40 false 0 0 0 0 false),(Box.mk 6 ByteArray.empty 20 false 0 0 0 0 false),(Box.mk 7 ByteArray.empty 20 false 0 0 0 0 false)]) [] O .sct G (fun hc=>G4 O O) O (JLo (E2 [r6,r7,r8,r9,r10]) [] O .sct G (fun hc=>G4 O O) O ?_))))
 obtain⟨r33,hr33,h⟩:=Gc h
 refine JLo (I64 r33) [121,122,123] O .sct ⟨Ua,Ua,Ua,G⟩ (fun hc=>H4a (args:=[.agg (H0.cs r3),E3 [(Box.mk 1 ByteArray.empty 40 false 0 0 0 0 false),(Box.mk 2 ByteArray.empty 40 false 0 0 0 0 false),(Box.mk 3 ByteArray.empty 40 false 0 0 0 0 false),(Box.mk 4 ByteArray.empty 40 false 0 0 0 0 false),(Box.mk 5 ByteArray.empty 40 false 0 0 0 0 false),(Box.mk 6 ByteArray.empty 20 false 0 0 0 0 false),(Box.mk 7 ByteArray.empty 20 false 0 0 0 0 false)],E2 [r6,r7,r8,r9,r10],E1 ([]:List Int),I64 2]) O (G75 r3 [(Box.mk 1 ByteArray.empty 40 false 0 0 0 0 false),(Box.mk 2 ByteArray.empty 40 false 0 0 0 0 false),(Box.mk 3 ByteArray.empty 40 false 0 0 0 0 false),(Box.mk 4 ByteArray.empty 40 false 0 0 0 0 false),(Box.mk 5 ByteArray.empty 40 false 0 0 0 0 false),(Box.mk 6 ByteArray.empty 20 false 0 0 0 0 false),(Box.mk 7 ByteArray.empty 20 false 0 0 0 0 false)] [r6,r7,r8,r9,r10] [] 2 r33 (Gu hc hr33)) Gec ⟨.inl O,O,.inl O,O,.inl O,O,.inr ⟨_,O,O⟩,O,.inl O,O,G⟩) O (JLo (BL (decide (r33=91))) [124] O .sct ⟨Ua,G⟩ (fun hc=>Jw O O O) O (JLh (BL ((((((((r26&&(decide (v29=0)))&&r30)&&r31)&&r32)&&(decide (r18.2=95)))&&(decide ((r21.1.length:Int)=6)))&&(decide (r24.2=93)))&&(decide (r33=91)))) (Hy O O O O) O (JLm (BL ((((((((r26&&(decide (v29=0)))&&r30)&&r31)&&r32)&&(decide (r18.2=95)))&&(decide ((r21.1.length:Int)=6)))&&(decide (r24.2=93)))&&(decide (r33=91)))) O (JLo (.agg (H0.cs r3)) [] O .sct G (fun hc=>Gh Hc O O O) O (JLo (E3 [(Box.mk 1 ByteArray.empty 40 false 0 0 0 0 false),(Box.mk 2 ByteArray.empty 40 false 0 0 0 0 false),(Box.mk 3 ByteArray.empty 40 false 0 0 0 0 false),(Box.mk 4 ByteArray.empty 40 false 0 0 0 0 false),(Box.mk 5 ByteArray.empty 40 false 0 0 0 0 false),(Box.mk 6 ByteArray.empty 20 false 0 0 0 0 false),(Box.mk 7 ByteArray.empty 20 false 0 0 0 0 false)]) [] O .sct G (fun hc=>G4 O O) O (JLo (E2 [r6,r7,r8,r9,r10]) [] O .sct G (fun hc=>G4 O O) O ?_))))))
 obtain⟨r34,hr34,h⟩:=Gc h
 refine JLo (I64 r34) [128,129,130] O .sct ⟨Ua,Ua,Ua,G⟩ (fun hc=>H4a (args:=[.agg (H0.cs r3),E3 [(Box.mk 1 ByteArray.empty 40 false 0 0 0 0 false),(Box.mk 2 ByteArray.empty 40 false 0 0 0 0 false),(Box.mk 3 ByteArray.empty 40 false 0 0 0 0 false),(Box.mk 4 ByteArray.empty 40 false 0 0 0 0 false),(Box.mk 5 ByteArray.empty 40 false 0 0 0 0 false),(Box.mk 6 ByteArray.empty 20 false 0 0 0 0 false),(Box.mk 7 ByteArray.empty 20 false 0 0 0 0 false)],E2 [r6,r7,r8,r9,r10],E1 ([]:List Int),I64 6]) O (G75 r3 [(Box.mk 1 ByteArray.empty 40 false 0 0 0 0 false),(Box.mk 2 ByteArray.empty 40 false 0 0 0 0 false),(Box.mk 3 ByteArray.empty 40 false 0 0 0 0 false),(Box.mk 4 ByteArray.empty 40 false 0 0 0 0 false),(Box.mk 5 ByteArray.empty 40 false 0 0 0 0 false),(Box.mk 6 ByteArray.empty 20 false 0 0 0 0 false),(Box.mk 7 ByteArray.empty 20 false 0 0 0 0 false)] [r6,r7,r8,r9,r10] [] 6 r34 (Gu hc hr34)) Gec ⟨.inl O,O,.inl O,O,.inl O,O,.inr ⟨_,O,O⟩,O,.inl O,O,G⟩) O (JLo (BL (decide (r34=90))) [131] O .sct ⟨Ua,G⟩ (fun hc=>Jw O O O) O (JLh (BL (((((((((r26&&(decide (v29=0)))&&r30)&&r31)&&r32)&&(decide (r18.2=95)))&&(decide ((r21.1.length:Int)=6)))&&(decide (r24.2=93)))&&(decide (r33=91)))&&(decide (r34=90)))) (Hy O O O O) O (JLm (BL (((((((((r26&&(decide (v29=0)))&&r30)&&r31)&&r32)&&(decide (r18.2=95)))&&(decide ((r21.1.length:Int)=6)))&&(decide (r24.2=93)))&&(decide (r33=91)))&&(decide (r34=90)))) O (JLo (.agg (H0.cs r3)) [] O .sct G (fun hc=>Gh Hc O O O) O (JLo (E3 [(Box.mk 1 ByteArray.empty 40 false 0 0 0 0 false),(Box.mk 2 ByteArray.empty 40 false 0 0 0 0 false),(Box.mk 3 ByteArray.empty 40 false 0 0 0 0 false),(Box.mk 4 ByteArray.empty 40 false 0 0 0 0 false),(Box.mk 5 ByteArray.empty 40 false 0 0 0 0 false),(Box.mk 6 ByteArray.empty 20 false 0 0 0 0 false),(Box.mk 7 ByteArray.empty 20 false 0 0 0 0 false)]) [] O .sct G (fun hc=>G4 O O) O (JLo (E2 [r6,r7,r8,r9,r10]) [] O .sct G (fun hc=>G4 O O) O ?_))))))
 obtain⟨r35,hr35,h⟩:=Gc h
 refine JLo (I64 r35) [135,136,137] O .sct ⟨Ua,Ua,Ua,G⟩ (fun hc=>H4a (args:=[.agg (H0.cs r3),E3 [(Box.mk 1 ByteArray.empty 40 false 0 0 0 0 false),(Box.mk 2 ByteArray.empty 40 false 0 0 0 0 false),(Box.mk 3 ByteArray.empty 40 false 0 0 0 0 false),(Box.mk 4 ByteArray.empty 40 false 0 0 0 0 false),(Box.mk 5 ByteArray.empty 40 false 0 0 0 0 false),(Box.mk 6 ByteArray.empty 20 false 0 0 0 0 false),(Box.mk 7 ByteArray.empty 20 false 0 0 0 0 false)],E2 [r6,r7,r8,r9,r10],E1 ([]:List Int),I64 3]) O (G75 r3 [(Box.mk 1 ByteArray.empty 40 false 0 0 0 0 false),(Box.mk 2 ByteArray.empty 40 false 0 0 0 0 false),(Box.mk 3 ByteArray.empty 40 false 0 0 0 0 false),(Box.mk 4 ByteArray.empty 40 false 0 0 0 0 false),(Box.mk 5 ByteArray.empty 40 false 0 0 0 0 false),(Box.mk 6 ByteArray.empty 20 false 0 0 0 0 false),(Box.mk 7 ByteArray.empty 20 false 0 0 0 0 false)] [r6,r7,r8,r9,r10] [] 3 r35 (Gu hc hr35)) Gec ⟨.inl O,O,.inl O,O,.inl O,O,.inr ⟨_,O,O⟩,O,.inl O,O,G⟩) O (JLo (BL (decide (r35=0))) [138] O .sct ⟨Ua,G⟩ (fun hc=>Jw O O O) O (JLh (BL ((((((((((r26&&(decide (v29=0)))&&r30)&&r31)&&r32)&&(decide (r18.2=95)))&&(decide ((r21.1.length:Int)=6)))&&(decide (r24.2=93)))&&(decide (r33=91)))&&(decide (r34=90)))&&(decide (r35=0)))) (Hy O O O O) O (JLm (BL ((((((((((r26&&(decide (v29=0)))&&r30)&&r31)&&r32)&&(decide (r18.2=95)))&&(decide ((r21.1.length:Int)=6)))&&(decide (r24.2=93)))&&(decide (r33=91)))&&(decide (r34=90)))&&(decide (r35=0)))) O (G7 (hK25 ?_)))))
 refine Gn (fin1 BL h)

def Hx (n:Int) (low:Int) (high:Int):Option Bool:=
 some ((decide (low≤n))&&(decide (n≤high)))
theorem J4 (n:Int) (low:Int) (high:Int) (r:Bool) (h:Hx n low high=some r):Pure Ei 162 [I64 n,I64 low,I64 high] (·=BL r):=by
 unfold Hx at h
 refine Gz [.tmp 6] Tryz.func162 O O (Jr fun hK1=>(JLm (BL false) O (G7 (hK1 (Jr fun hK2=>(JLm (I64 n) O (JLm (I64 low) O (JLh (BL (decide (low≤n))) (Zf O O O) O (JLm (BL (decide (low≤n))) O (JLo (I64 n) [] O .sct G (fun hc=>G4 O O) O (JLo (I64 high) [] O .sct G (fun hc=>G4 O O) O (JLo (BL (decide (n≤high))) [11,12] O .sct ⟨Ua,Ua,G⟩ (fun hc=>J12 O O O) O (JLh (BL ((decide (low≤n))&&(decide (n≤high)))) (Hy O O O O) O (JLm (BL ((decide (low≤n))&&(decide (n≤high)))) O (G7 (hK2 (Gn (fin1 BL h))))))))))))))))))

def Zp (c:G3):Option Bool:=
 each (fun y41 i41 (s41:Unit) nx41=>
  bif ((decide (y41 < 0))||(decide (c.Tiers≤y41))) then
  (some false)
  else
  (bnd (bif decide (0 < (i41:Int)) then chk ((i41:Int) - 1) some else some 0) fun v49=>
   bnd (bif decide (0 < (i41:Int)) then Qq c.Plugs v49 some else some default) fun y50=>
   bif ((decide (0 < (i41:Int)))&&(decide (y41≤y50))) then
   (some false)
   else
   (nx41 ())))
 (fun(s41:Unit)=>
  bnd (Hx c.X (-500000) 500000) fun r53=>
  bnd (bif r53 then Hx c.Y (-500000) 500000 else some default) fun r54=>
  bnd (bif (r53&&r54) then Hx c.Z (-500000) 500000 else some default) fun r55=>
  bnd (Hx c.Kilos20 0 500000000) fun r57=>
  bnd (bif r57 then Hx c.Kilos40 0 500000000 else some default) fun r58=>
  bnd (bif (r57&&r58) then Hx c.Lash 0 1000000000000 else some default) fun r59=>
  bnd (Hx c.Bay 0 39) fun r61=>
  bnd (bif r61 then Hx c.Row 0 30 else some default) fun r62=>
  bnd (bif (r61&&r62) then Hx c.Tiers 1 10 else some default) fun r63=>
  bnd (bif ((r61&&r62)&&r63) then Hx c.Height 0 40000 else some default) fun r64=>
  some (((((r61&&r62)&&r63)&&r64)&&((r57&&r58)&&r59))&&((r53&&r54)&&r55))) c.Plugs 0 ()
abbrev K0 (c:G3):List AV:=[I64 c.Tiers,I64 c.Height,I64 c.Kilos20,I64 c.Kilos40,I64 c.Lash,E1 c.Plugs,I64 c.X,I64 c.Y,I64 c.Z]
theorem H4e (c:G3) (r:Bool) (h:Zp c=some r):Pure Ei 163 [.agg (G3.cs c)] (·=BL r):=by
 unfold Zp at h
 refine Gz [.tmp 2] Tryz.func163 O O (Jr fun hK1=>(JLh (.ptr 1159 0) (Je (cs:=(G3.cs c)) 1159 O O O O O) O (JLm (BL false) O (G7 (hK1 (Gx [(1,Ed c)] [] 1159 rfl rfl rfl G rfl (by exact⟨.ptr,G⟩) (Js fun hK2=>Jr fun hK3=>(JLm (I64 0) O (G7 (hK3 (Gq ?_)))))))))))
 obtain⟨b41,kx41,hb41,hkx41,h⟩:=J3 h
 refine Hd (fun i41 (s41:Unit)=>each b41 kx41 (List.drop i41 c.Plugs) i41 s41=some r) (fun i41 s41=>[(1,Ed c),(3,Eh i41)]) (fun i41 s41=>[]) (fun i41=>c.Plugs.length - i41) 0 () h ⟨(.sm O O),G,O⟩ ?_
 clear h
 intro i41 s41 hi41 K41 e41
 refine Js fun hK42=>Jr fun hK43=>(JLm (Eh i41) O (JLh (.dptr [E1 c.Plugs,I64 c.X,I64 c.Y,I64 c.Z]) (Ga Rc O O O) O (JLh (E1 c.Plugs) (Gf Hw O O O) O (JLl Gs O O O fun hm9=>(JLh (BL (decide ((i41:Int) < (c.Plugs.length:Int)))) (Hz O O O) O (G7 (hK43 (Gi O (fun hb=>?_) (fun hb=>?_)))))))))
 ·
  have hk41:=Jj hb
  obtain⟨y41,nx41,hy41,hn41,h⟩:=Hu hi41 hk41
  replace h:=Z9 hb41 h
  refine Gk (hK42 (Js fun hK44=>Gq (Js fun hK45=>Js fun hK46=>?_)))
  refine JC_d0 J6 (by kernel_rfl) (Dq (.dptr [E1 c.Plugs,I64 c.X,I64 c.Y,I64 c.Z]) (Ga Rc O O O) O (Dq (E1 c.Plugs) (Gf Hw O O O) O (Dq (Eh i41) (G4 O O) O (Dq (.dptr [I64 y41]) (Gw (f:=I64) (xs:=c.Plugs) (y:=y41) O O O Gs hy41 O) O (Dq (I64 y41) (Gf Gd O O O) O (Dq (BL (decide (y41 < 0))) (Hz O O O) O (Dq (BL (decide (y41 < 0))) (G4 O O) O (Do (.dptr [E1 c.Plugs,I64 c.X,I64 c.Y,I64 c.Z]) [] O .scf G (fun hc=>Ga Rc O O O) O (Do (E1 c.Plugs) [20] O .scf ⟨Ua,G⟩ (fun hc=>Gf Hw O O O) O (Do (Eh i41) [] O .scf G (fun hc=>G4 O O) O (Do (.dptr [I64 y41]) [21,22] O .scf ⟨Ua,Ua,G⟩ (fun hc=>Gw (f:=I64) (xs:=c.Plugs) (y:=y41) O O O Gs hy41 O) O (Do (I64 y41) [23] O .scf ⟨Ua,G⟩ (fun hc=>Gf Gd O O O) O (Do (.dptr (K0 c)) [] O .scf G (fun hc=>Ga G17 O O O) O ?_)))))))))))))
  refine Do (I64 c.Tiers) [25] O .scf ⟨Ua,G⟩ (fun hc=>Gf Gd O O O) O (Do (BL (decide (c.Tiers≤y41))) [24,26] O .scf ⟨Ua,Ua,G⟩ (fun hc=>Zf O O O) O (Dq (BL ((decide (y41 < 0))||(decide (c.Tiers≤y41)))) (Y4 O O O O) O (Dnil (hK46 (JCc O h (fun h hb=>?_) (fun h hb=>?_))))))
  ·
   refine Jr fun hK47=>(JLm (BL false) O (G7 (hK47 (Gn (fin1 BL h)))))
  ·
   refine Gk (hK45 (Js fun hK48=>?_))
   obtain⟨v49,hv49,h⟩:=Gc h
   obtain⟨y50,hy50,h⟩:=Gc h
   refine JC_d0 J6 (by kernel_rfl) (Dq (Eh i41) (G4 O O) O (Dq (BL (decide (0 < (i41:Int)))) (G30 O O O) O (Dq (BL (decide (0 < (i41:Int)))) (G4 O O) O (Do (.dptr [E1 c.Plugs,I64 c.X,I64 c.Y,I64 c.Z]) [] O .sct G (fun hc=>Ga Rc O O O) O (Do (E1 c.Plugs) [32] O .sct ⟨Ua,G⟩ (fun hc=>Gf Hw O O O) O (Do (Eh i41) [] O .sct G (fun hc=>G4 O O) O (Do (I64 v49) [34] O .sct ⟨Ua,G⟩ (fun hc=>Gcc (Zo (Gu hc hv49)) O O O) O (Do (.dptr [I64 y50]) [33,35] O .sct ⟨Ua,Ua,G⟩ (fun hc=>(match Jx (Gu hc hy50) with | ⟨_,hm_,hy_⟩=>Gw (f:=I64) (xs:=c.Plugs) (y:=y50) O O O Gs hy_ hm_)) O (Do (I64 y50) [36] O .sct ⟨Ua,G⟩ (fun hc=>Gf Gd O O O) O (Do (.dptr [E1 c.Plugs,I64 c.X,I64 c.Y,I64 c.Z]) [] O .sct G (fun hc=>Ga Rc O O O) O (Do (E1 c.Plugs) [38] O .sct ⟨Ua,G⟩ (fun hc=>Gf Hw O O O) O (Do (Eh i41) [] O .sct G (fun hc=>G4 O O) O (Do (.dptr [I64 y41]) [39,40] O .sct ⟨Ua,Ua,G⟩ (fun hc=>Gw (f:=I64) (xs:=c.Plugs) (y:=y41) O O O Gs hy41 O) O ?_)))))))))))))
   refine Do (I64 y41) [41] O .sct ⟨Ua,G⟩ (fun hc=>Gf Gd O O O) O (Do (BL (decide (y41≤y50))) [37,42] O .sct ⟨Ua,Ua,G⟩ (fun hc=>Zf O O O) O (Dq (BL ((decide (0 < (i41:Int)))&&(decide (y41≤y50)))) (Hy O O O O) O (Dnil (hK48 (JCc O h (fun h hb=>?_) (fun h hb=>?_))))))
   ·
    refine Jr fun hK51=>(JLm (BL false) O (G7 (hK51 (Gn (fin1 BL h)))))
   ·
    refine Gk (hK44 (G2 (JLm (Eh i41) O (JLh (I64 ((i41+1:Nat):Int)) (Hs (Hf hk41 hm9) O O O) O (JLm (I64 ((i41+1:Nat):Int)) O (G7 (e41 _ _ (i41+1) () (app1 hn41 h) (by omega) ⟨(.sm O O),G,rfl⟩)))))))
 ·
  have h:=app1 hkx41 (Hv hi41 (Ha hb))
  refine Hn (hK2 (Jr fun hK52=>(JLh (.dptr [I64 c.X,I64 c.Y,I64 c.Z]) (Ga Gf6 O O O) O (JLh (I64 c.X) (Gf Gd O O O) O ?_))))
  obtain⟨r53,hr53,h⟩:=Gc h
  refine JLh (BL r53) (Gm O (J4 c.X (-500000) 500000 r53 hr53) Zn ⟨O,O,O,O,O,O,G⟩) O (JLm (BL r53) O (JLo (.dptr [I64 c.Y,I64 c.Z]) [] O .sct G (fun hc=>Ga Gd6 O O O) O (JLo (I64 c.Y) [49] O .sct ⟨Ua,G⟩ (fun hc=>Gf Gd O O O) O ?_)))
  obtain⟨r54,hr54,h⟩:=Gc h
  refine JLo (BL r54) [50] O .sct ⟨Ua,G⟩ (fun hc=>Gm (args:=[I64 c.Y,I64 (-500000),I64 500000]) O (J4 c.Y (-500000) 500000 r54 (Gu hc hr54)) Zn ⟨O,O,O,O,O,O,G⟩) O (JLh (BL (r53&&r54)) (Hy O O O O) O (JLm (BL (r53&&r54)) O (JLo (.dptr [I64 c.Z]) [] O .sct G (fun hc=>Ga Gd5 O O O) O (JLo (I64 c.Z) [54] O .sct ⟨Ua,G⟩ (fun hc=>Gf Gd O O O) O ?_))))
  obtain⟨r55,hr55,h⟩:=Gc h
  refine JLo (BL r55) [55] O .sct ⟨Ua,G⟩ (fun hc=>Gm (args:=[I64 c.Z,I64 (-500000),I64 500000]) O (J4 c.Z (-500000) 500000 r55 (Gu hc hr55)) Zn ⟨O,O,O,O,O,O,G⟩) O (JLh (BL ((r53&&r54)&&r55)) (Hy O O O O) O (JLm (BL ((r53&&r54)&&r55)) O (G7 (hK52 (Jr fun hK56=>(JLh (.dptr [I64 c.Kilos20,I64 c.Kilos40,I64 c.Lash,E1 c.Plugs,I64 c.X,I64 c.Y,I64 c.Z]) (Ga Gf9 O O O) O (JLh (I64 c.Kilos20) (Gf Gd O O O) O ?_)))))))
  obtain⟨r57,hr57,h⟩:=Gc h
  refine JLh (BL r57) (Gm O (J4 c.Kilos20 0 500000000 r57 hr57) Zn ⟨O,O,O,O,O,O,G⟩) O (JLm (BL r57) O (JLo (.dptr [I64 c.Kilos40,I64 c.Lash,E1 c.Plugs,I64 c.X,I64 c.Y,I64 c.Z]) [] O .sct G (fun hc=>Ga Gf8 O O O) O (JLo (I64 c.Kilos40) [62] O .sct ⟨Ua,G⟩ (fun hc=>Gf Gd O O O) O ?_)))
  obtain⟨r58,hr58,h⟩:=Gc h
  refine JLo (BL r58) [63] O .sct ⟨Ua,G⟩ (fun hc=>Gm (args:=[I64 c.Kilos40,I64 0,I64 500000000]) O (J4 c.Kilos40 0 500000000 r58 (Gu hc hr58)) Zn ⟨O,O,O,O,O,O,G⟩) O (JLh (BL (r57&&r58)) (Hy O O O O) O (JLm (BL (r57&&r58)) O (JLo (.dptr [I64 c.Lash,E1 c.Plugs,I64 c.X,I64 c.Y,I64 c.Z]) [] O .sct G (fun hc=>Ga Gf7 O O O) O (JLo (I64 c.Lash) [67] O .sct ⟨Ua,G⟩ (fun hc=>Gf Gd O O O) O ?_))))
  obtain⟨r59,hr59,h⟩:=Gc h
  refine JLo (BL r59) [68] O .sct ⟨Ua,G⟩ (fun hc=>Gm (args:=[I64 c.Lash,I64 0,I64 1000000000000]) O (J4 c.Lash 0 1000000000000 r59 (Gu hc hr59)) Zn ⟨O,O,O,O,O,O,G⟩) O (JLh (BL ((r57&&r58)&&r59)) (Hy O O O O) O (JLm (BL ((r57&&r58)&&r59)) O (G7 (hK56 (Jr fun hK60=>(JLh (Ed c) (Ga G19 O O O) O (JLh (I64 c.Bay) (Gf Gd O O O) O ?_)))))))
  obtain⟨r61,hr61,h⟩:=Gc h
  refine JLh (BL r61) (Gm O (J4 c.Bay 0 39 r61 hr61) Zn ⟨O,O,O,O,O,O,G⟩) O (JLm (BL r61) O (JLo (.dptr [I64 c.Row,BL c.Deck,I64 c.Tiers,I64 c.Height,I64 c.Kilos20,I64 c.Kilos40,I64 c.Lash,E1 c.Plugs,I64 c.X,I64 c.Y,I64 c.Z]) [] O .sct G (fun hc=>Ga G18 O O O) O (JLo (I64 c.Row) [75] O .sct ⟨Ua,G⟩ (fun hc=>Gf Gd O O O) O ?_)))
  obtain⟨r62,hr62,h⟩:=Gc h
  refine JLo (BL r62) [76] O .sct ⟨Ua,G⟩ (fun hc=>Gm (args:=[I64 c.Row,I64 0,I64 30]) O (J4 c.Row 0 30 r62 (Gu hc hr62)) Zn ⟨O,O,O,O,O,O,G⟩) O (JLh (BL (r61&&r62)) (Hy O O O O) O (JLm (BL (r61&&r62)) O (JLo (.dptr (K0 c)) [] O .sct G (fun hc=>Ga G17 O O O) O (JLo (I64 c.Tiers) [80] O .sct ⟨Ua,G⟩ (fun hc=>Gf Gd O O O) O ?_))))
  obtain⟨r63,hr63,h⟩:=Gc h
  refine JLo (BL r63) [81] O .sct ⟨Ua,G⟩ (fun hc=>Gm (args:=[I64 c.Tiers,I64 1,I64 10]) O (J4 c.Tiers 1 10 r63 (Gu hc hr63)) Zn ⟨O,O,O,O,O,O,G⟩) O (JLh (BL ((r61&&r62)&&r63)) (Hy O O O O) O (JLm (BL ((r61&&r62)&&r63)) O (JLo (.dptr [I64 c.Height,I64 c.Kilos20,I64 c.Kilos40,I64 c.Lash,E1 c.Plugs,I64 c.X,I64 c.Y,I64 c.Z]) [] O .sct G (fun hc=>Ga G3a O O O) O (JLo (I64 c.Height) [85] O .sct ⟨Ua,G⟩ (fun hc=>Gf Gd O O O) O ?_))))
  obtain⟨r64,hr64,h⟩:=Gc h
  refine JLo (BL r64) [86] O .sct ⟨Ua,G⟩ (fun hc=>Gm (args:=[I64 c.Height,I64 0,I64 40000]) O (J4 c.Height 0 40000 r64 (Gu hc hr64)) Zn ⟨O,O,O,O,O,O,G⟩) O (JLh (BL (((r61&&r62)&&r63)&&r64)) (Hy O O O O) O (JLm (BL (((r61&&r62)&&r63)&&r64)) O (JLo (BL ((r57&&r58)&&r59)) [] O .sct G (fun hc=>G4 O O) O (JLh (BL ((((r61&&r62)&&r63)&&r64)&&((r57&&r58)&&r59))) (Hy O O O O) O (JLm (BL ((((r61&&r62)&&r63)&&r64)&&((r57&&r58)&&r59))) O (JLo (BL ((r53&&r54)&&r55)) [] O .sct G (fun hc=>G4 O O) O (JLh (BL (((((r61&&r62)&&r63)&&r64)&&((r57&&r58)&&r59))&&((r53&&r54)&&r55))) (Hy O O O O) O (JLm (BL (((((r61&&r62)&&r63)&&r64)&&((r57&&r58)&&r59))&&((r53&&r54)&&r55))) O (G7 (hK60 (Gn (fin1 BL h))))))))))))

def Qf (rows:List Int) (row:Int):Option Bool:=
 each (fun y17 i17 (s17:Unit) nx17=>
  bif decide (y17=row) then
  (some true)
  else
  (nx17 ()))
 (fun(s17:Unit)=>
  some false) rows 0 ()
theorem G9e (rows:List Int) (row:Int) (r:Bool) (h:Qf rows row=some r):Pure Ei 105 [E1 rows,I64 row] (·=BL r):=by
 unfold Qf at h
 refine Gz [.tmp 4] Tryz.func105 O O (Jr fun hK1=>(JLm (BL false) O (G7 (hK1 (Js fun hK2=>Jr fun hK3=>(JLm (I64 0) O (G7 (hK3 (Gq ?_)))))))))
 obtain⟨b17,kx17,hb17,hkx17,h⟩:=J3 h
 refine Hd (fun i17 (s17:Unit)=>each b17 kx17 (List.drop i17 rows) i17 s17=some r) (fun i17 s17=>[(0,E1 rows),(1,I64 row),(5,Eh i17)]) (fun i17 s17=>[]) (fun i17=>rows.length - i17) 0 () h ⟨(.sm O O),G,O⟩ ?_
 clear h
 intro i17 s17 hi17 K17 e17
 refine Js fun hK18=>Jr fun hK19=>(JLm (Eh i17) O (JLm (E1 rows) O (JLl Gs O O O fun hm8=>(JLh (BL (decide ((i17:Int) < (rows.length:Int)))) (Hz O O O) O (G7 (hK19 (Gi O (fun hb=>?_) (fun hb=>?_))))))))
 ·
  have hk17:=Jj hb
  obtain⟨y17,nx17,hy17,hn17,h⟩:=Hu hi17 hk17
  replace h:=Z9 hb17 h
  refine Gk (hK18 (Js fun hK20=>Gq (Jr fun hK21=>(JLm (E1 rows) O (JLm (Eh i17) O (JLh (.dptr [I64 y17]) (Gw (f:=I64) (xs:=rows) (y:=y17) O O O Gs hy17 O) O (JLh (I64 y17) (Gf Gd O O O) O (JLm (I64 row) O (JLh (BL (decide (y17=row))) (Jw O O O) O (G7 (hK21 (JCc O h (fun h hb=>?_) (fun h hb=>?_)))))))))))))
  ·
   refine Jr fun hK22=>(JLm (BL true) O (G7 (hK22 (Gn (fin1 BL h)))))
  ·
   refine Gk (hK20 (G2 (JLm (Eh i17) O (JLh (I64 ((i17+1:Nat):Int)) (Hs (Hf hk17 hm8) O O O) O (JLm (I64 ((i17+1:Nat):Int)) O (G7 (e17 _ _ (i17+1) () (app1 hn17 h) (by omega) ⟨(.sm O O),G,rfl⟩)))))))
 ·
  have h:=app1 hkx17 (Hv hi17 (Ha hb))
  refine Hn (hK2 (Jr fun hK23=>(JLm (BL false) O (G7 (hK23 (Gn (fin1 BL h)))))))

def G0a (F:Nat) (s:H0):Option Bool:=
 bnd (Hx (s.Columns.length:Int) 1 200) fun r4=>
 bif ((!r4)||(decide (40 < (s.Covers.length:Int)))) then
 (some false)
 else
 (each (fun y8 i8 (s8:Unit) nx8=>
   bnd (Zp y8) fun r14=>
   bif (!r14) then
   (some false)
   else
   (need (decide ((i8:Int)≤9223372036854775807)) <|
    upto (fun i34 (s34:Unit) nx34=>
     Qq s.Columns (i34:Int) fun y39=>
     bnd (bif decide (y39.Bay=y8.Bay) then Qq s.Columns (i34:Int) some else some default) fun y41=>
     bnd (bif ((decide (y39.Bay=y8.Bay))&&(decide (y41.Row=y8.Row))) then Qq s.Columns (i34:Int) some else some default) fun y42=>
     bif (((decide (y39.Bay=y8.Bay))&&(decide (y41.Row=y8.Row)))&&(y42.Deck==y8.Deck)) then
     (some false)
     else
     (nx34 ()))
    (fun(s34:Unit)=>
     nx8 ()) (i8:Int).toNat 0 ()))
  (fun(s8:Unit)=>
   each (fun y46 i46 (s46:Unit) nx46=>
    bnd (Hx y46.Bay 0 39) fun r53=>
    bif ((!r53)||(decide ((y46.Rows.length:Int)=0))) then
    (some false)
    else
    (each (fun y56 i56 (s56:Unit) nx56=>
      bnd (Hx y56 0 30) fun r62=>
      bnd (bif ((!(!r62))&&(decide (0 < (i56:Int)))) then chk ((i56:Int) - 1) some else some 0) fun v63=>
      bnd (bif ((!(!r62))&&(decide (0 < (i56:Int)))) then Qq y46.Rows v63 some else some default) fun y64=>
      bif ((!r62)||((decide (0 < (i56:Int)))&&(decide (y56≤y64)))) then
      (some false)
      else
      (need (decide ((i46:Int)≤9223372036854775807)) <|
       upto (fun i84 (s84:Unit) nx84=>
        Qq s.Covers (i84:Int) fun y89=>
        bnd (bif decide (y89.Bay=y46.Bay) then Qq s.Covers (i84:Int) some else some default) fun y91=>
        bnd (bif decide (y89.Bay=y46.Bay) then Qf y91.Rows y56 else some default) fun r92=>
        bif ((decide (y89.Bay=y46.Bay))&&r92) then
        (some false)
        else
        (nx84 ()))
       (fun(s84:Unit)=>
        nx56 ()) (i46:Int).toNat 0 ()))
     (fun(s56:Unit)=>
      nx46 ()) y46.Rows 0 ()))
   (fun(s46:Unit)=>
    some true) s.Covers 0 ()) s.Columns 0 ())
abbrev Ka (s:H0):List AV:=[E4 s.Covers,I64 s.Light.Kilos,I64 s.Light.X,I64 s.Light.Y,I64 s.Light.Z,E7 s.Rows,E6 s.Frames,E8 s.Tanks,I64 s.G1.Tolerance,I64 s.G1.Trim,I64 s.G1.List_,I64 s.G1.Stability]
theorem H7d (F:Nat) (s:H0) (r:Bool) (h:G0a F s=some r):Pure Ei 140 [.agg (H0.cs s)] (·=BL r):=by
 unfold G0a at h
 refine Gz [.tmp 2] Tryz.func140 O O (Jr fun hK1=>(JLh (.ptr 1150 0) (Je (cs:=(H0.cs s)) 1150 O O O O O) O (JLm (BL false) O (G7 (hK1 (Gx [(1,Eb s)] [] 1150 rfl rfl rfl G rfl (by exact⟨.ptr,G⟩) (Js fun hK2=>?_)))))))
 refine Jr fun hK3=>(JLh (Eb s) (Ga Hi O O O) O (JLh (E5 s.Columns) (Gf Ht O O O) O (JLl H4 O O O fun hm11=>?_)))
 obtain⟨r4,hr4,h⟩:=Gc h
 refine JLh (BL r4) (Gm O (J4 (s.Columns.length:Int) 1 200 r4 hr4) Zn ⟨O,O,O,O,O,O,G⟩) O (JLh (BL (!r4)) (Q7 (b:=r4) O O) O (JLm (BL (!r4)) O (JLo (.dptr (Ka s)) [] O .scf G (fun hc=>Ga J0 O O O) O (JLo (E4 s.Covers) [15] O .scf ⟨Ua,G⟩ (fun hc=>Gf J8 O O O) O (JLo (Eh s.Covers.length) [16] O .scf ⟨Ua,G⟩ (fun hc=>Qe (f:=G9.av) (xs:=s.Covers) He O O) O (JLo (BL (decide (40 < (s.Covers.length:Int)))) [17] O .scf ⟨Ua,G⟩ (fun hc=>G30 O O O) O (JLh (BL ((!r4)||(decide (40 < (s.Covers.length:Int))))) (Y4 O O O O) O (G7 (hK3 ?_)))))))))
 refine JCc O h ?_ ?_<;>intro h hb
 ·
  refine Jr fun hK5=>(JLm (BL false) O (G7 (hK5 (Gn (fin1 BL h)))))
 ·
  refine Gk (hK2 (Js fun hK6=>Jr fun hK7=>(JLm (I64 0) O (G7 (hK7 (Gq ?_))))))
  obtain⟨b8,kx8,hb8,hkx8,h⟩:=J3 h
  refine Hd (fun i8 (s8:Unit)=>each b8 kx8 (List.drop i8 s.Columns) i8 s8=some r) (fun i8 s8=>[(1,Eb s),(3,Eh i8)]) (fun i8 s8=>[]) (fun i8=>s.Columns.length - i8) 0 () h ⟨(.sm O O),G,O⟩ ?_
  clear h
  intro i8 s8 hi8 K8 e8
  refine Js fun hK9=>Jr fun hK10=>(JLm (Eh i8) O (JLh (Eb s) (Ga Hi O O O) O (JLh (E5 s.Columns) (Gf Ht O O O) O (JLl H4 O O O fun hm23=>(JLh (BL (decide ((i8:Int) < (s.Columns.length:Int)))) (Hz O O O) O (G7 (hK10 (Gi O (fun hb=>?_) (fun hb=>?_)))))))))
  ·
   have hk8:=Jj hb
   obtain⟨y8,nx8,hy8,hn8,h⟩:=Hu hi8 hk8
   replace h:=Z9 hb8 h
   refine Gk (hK9 (Js fun hK11=>Gq (Js fun hK12=>Jr fun hK13=>(JLh (Eb s) (Ga Hi O O O) O (JLh (E5 s.Columns) (Gf Ht O O O) O (JLm (Eh i8) O (JLh (Ed y8) (Gw (f:=G3.av) (xs:=s.Columns) (y:=y8) O O O H4 hy8 O) O (JLh (.agg (G3.cs y8)) (Gh Y5 O O O) O ?_))))))))
   obtain⟨r14,hr14,h⟩:=Gc h
   refine JLh (BL r14) (Gm O (H4e y8 r14 hr14) Qa2 ⟨O,O,G⟩) O (JLh (BL (!r14)) (Q7 (b:=r14) O O) O (G7 (hK13 (JCc O h (fun h hb=>?_) (fun h hb=>?_)))))
   ·
    refine Jr fun hK15=>(JLm (BL false) O (G7 (hK15 (Gn (fin1 BL h)))))
   ·
    refine Gk (hK12 (Jr fun hK16=>(JLm (I64 0) O (G7 (hK16 (Gq ?_))))))
    obtain⟨hx34,h⟩:=Hr h
    obtain⟨b34,kx34,hb34,hkx34,h⟩:=G4d h
    refine Hd (fun i34 (s34:Unit)=>upto b34 kx34 ((i8:Int).toNat - i34) i34 s34=some r) (fun i34 s34=>[(1,Eb s),(3,Eh i8),(4,Eh i34)]) (fun i34 s34=>[]) (fun i34=>(i8:Int).toNat - i34) 0 () h ⟨(.sm O O),G,O⟩ ?_
    clear h
    intro i34 s34 hi34 K34 e34
    refine Js fun hK35=>Jr fun hK36=>(JLm (Eh i34) O (JLm (Eh i8) O (JLh (BL (decide ((i34:Int) < (i8:Int)))) (Hz O O O) O (G7 (hK36 (Gi O (fun hb=>?_) (fun hb=>?_)))))))
    ·
     have hk34:=G21 hb
     obtain⟨nx34,hn34,h⟩:=G1e hi34 hk34
     replace h:=Hba hb34 h
     refine Gk (hK35 (Js fun hK37=>Gq (Js fun hK38=>?_)))
     obtain⟨m40,y39,hm40,hy39,h⟩:=R1 h
     obtain⟨y41,hy41,h⟩:=Gc h
     obtain⟨y42,hy42,h⟩:=Gc h
     refine JC_d0 J6 (by kernel_rfl) (Dq (Eb s) (Ga Hi O O O) O (Dq (E5 s.Columns) (Gf Ht O O O) O (Dq (Eh i34) (G4 O O) O (Dq (Ed y39) (Gw (f:=G3.av) (xs:=s.Columns) (y:=y39) O O O H4 hy39 hm40) O (Dq (Ed y39) (Ga G19 O O O) O (Dq (I64 y39.Bay) (Gf Gd O O O) O (Dq (Eb s) (Ga Hi O O O) O (Dq (E5 s.Columns) (Gf Ht O O O) O (Dq (Eh i8) (G4 O O) O (Dq (Ed y8) (Gw (f:=G3.av) (xs:=s.Columns) (y:=y8) O O O H4 hy8 O) O (Dq (Ed y8) (Ga G19 O O O) O (Dq (I64 y8.Bay) (Gf Gd O O O) O (Dq (BL (decide (y39.Bay=y8.Bay))) (Jw O O O) O ?_)))))))))))))
     refine Dq (BL (decide (y39.Bay=y8.Bay))) (G4 O O) O (Do (Eb s) [] O .sct G (fun hc=>Ga Hi O O O) O (Do (E5 s.Columns) [53] O .sct ⟨Ua,G⟩ (fun hc=>Gf Ht O O O) O (Do (Eh i34) [] O .sct G (fun hc=>G4 O O) O (Do (Ed y41) [54,55] O .sct ⟨Ua,Ua,G⟩ (fun hc=>(match Jx (Gu hc hy41) with | ⟨_,hm_,hy_⟩=>Gw (f:=G3.av) (xs:=s.Columns) (y:=y41) O O O H4 hy_ hm_)) O (Do (.dptr ((G3.cs y41).drop 1)) [56] O .sct ⟨Ua,G⟩ (fun hc=>Ga G18 O O O) O (Do (I64 y41.Row) [57] O .sct ⟨Ua,G⟩ (fun hc=>Gf Gd O O O) O (Do (Eb s) [] O .sct G (fun hc=>Ga Hi O O O) O (Do (E5 s.Columns) [59] O .sct ⟨Ua,G⟩ (fun hc=>Gf Ht O O O) O (Do (Eh i8) [] O .sct G (fun hc=>G4 O O) O (Do (Ed y8) [60,61] O .sct ⟨Ua,Ua,G⟩ (fun hc=>Gw (f:=G3.av) (xs:=s.Columns) (y:=y8) O O O H4 hy8 O) O (Do (.dptr ((G3.cs y8).drop 1)) [62] O .sct ⟨Ua,G⟩ (fun hc=>Ga G18 O O O) O (Do (I64 y8.Row) [63] O .sct ⟨Ua,G⟩ (fun hc=>Gf Gd O O O) O (Do (BL (decide (y41.Row=y8.Row))) [58,64] O .sct ⟨Ua,Ua,G⟩ (fun hc=>Jw O O O) O ?_)))))))))))))
     refine Dq (BL ((decide (y39.Bay=y8.Bay))&&(decide (y41.Row=y8.Row)))) (Hy O O O O) O (Dq (BL ((decide (y39.Bay=y8.Bay))&&(decide (y41.Row=y8.Row)))) (G4 O O) O (Do (Eb s) [] O .sct G (fun hc=>Ga Hi O O O) O (Do (E5 s.Columns) [68] O .sct ⟨Ua,G⟩ (fun hc=>Gf Ht O O O) O (Do (Eh i34) [] O .sct G (fun hc=>G4 O O) O (Do (Ed y42) [69,70] O .sct ⟨Ua,Ua,G⟩ (fun hc=>(match Jx (Gu hc hy42) with | ⟨_,hm_,hy_⟩=>Gw (f:=G3.av) (xs:=s.Columns) (y:=y42) O O O H4 hy_ hm_)) O (Do (.dptr ((G3.cs y42).drop 2)) [71] O .sct ⟨Ua,G⟩ (fun hc=>Ga Yj O O O) O (Do (BL y42.Deck) [72] O .sct ⟨Ua,G⟩ (fun hc=>Gf Yc O O O) O (Do (Eb s) [] O .sct G (fun hc=>Ga Hi O O O) O (Do (E5 s.Columns) [74] O .sct ⟨Ua,G⟩ (fun hc=>Gf Ht O O O) O (Do (Eh i8) [] O .sct G (fun hc=>G4 O O) O (Do (Ed y8) [75,76] O .sct ⟨Ua,Ua,G⟩ (fun hc=>Gw (f:=G3.av) (xs:=s.Columns) (y:=y8) O O O H4 hy8 O) O (Do (.dptr ((G3.cs y8).drop 2)) [77] O .sct ⟨Ua,G⟩ (fun hc=>Ga Yj O O O) O (Do (BL y8.Deck) [78] O .sct ⟨Ua,G⟩ (fun hc=>Gf Yc O O O) O ?_)))))))))))))
     refine Do (BL (y42.Deck==y8.Deck)) [73,79] O .sct ⟨Ua,Ua,G⟩ (fun hc=>J5b Hf6 O O O) O (Dq (BL (((decide (y39.Bay=y8.Bay))&&(decide (y41.Row=y8.Row)))&&(y42.Deck==y8.Deck))) (Hy O O O O) O (Dnil (hK38 (JCc O h (fun h hb=>?_) (fun h hb=>?_)))))
     ·
      refine Jr fun hK43=>(JLm (BL false) O (G7 (hK43 (Gn (fin1 BL h)))))
     ·
      refine Gk (hK37 (G2 (JLm (Eh i34) O (JLh (I64 ((i34+1:Nat):Int)) (Hs (Hf hk34 (Zj hx34)) O O O) O (JLm (I64 ((i34+1:Nat):Int)) O (G7 (e34 _ _ (i34+1) () (app1 hn34 h) (by omega) ⟨(.sm O O),G,rfl⟩)))))))
    ·
     have h:=app1 hkx34 (G1f hi34 (Qu hb))
     refine Hn (hK11 (G2 (JLm (Eh i8) O (JLh (I64 ((i8+1:Nat):Int)) (Hs (Hf hk8 hm23) O O O) O (JLm (I64 ((i8+1:Nat):Int)) O (G7 (e8 _ _ (i8+1) () (app1 hn8 h) (by omega) ⟨(.sm O O),G,rfl⟩)))))))
  ·
   have h:=app1 hkx8 (Hv hi8 (Ha hb))
   refine Hn (hK6 (Js fun hK44=>Jr fun hK45=>(JLm (I64 0) O (G7 (hK45 (Gq ?_))))))
   obtain⟨b46,kx46,hb46,hkx46,h⟩:=J3 h
   refine Hd (fun i46 (s46:Unit)=>each b46 kx46 (List.drop i46 s.Covers) i46 s46=some r) (fun i46 s46=>[(1,Eb s),(5,Eh i46)]) (fun i46 s46=>[]) (fun i46=>s.Covers.length - i46) 0 () h ⟨(.sm O O),G,O⟩ ?_
   clear h
   intro i46 s46 hi46 K46 e46
   refine Js fun hK47=>Jr fun hK48=>(JLm (Eh i46) O (JLh (.dptr (Ka s)) (Ga J0 O O O) O (JLh (E4 s.Covers) (Gf J8 O O O) O (JLl He O O O fun hm85=>(JLh (BL (decide ((i46:Int) < (s.Covers.length:Int)))) (Hz O O O) O (G7 (hK48 (Gi O (fun hb=>?_) (fun hb=>?_)))))))))
   ·
    have hk46:=Jj hb
    obtain⟨y46,nx46,hy46,hn46,h⟩:=Hu hi46 hk46
    replace h:=Z9 hb46 h
    refine Gk (hK47 (Js fun hK49=>Gq (Jr fun hK50=>(JLh (.dptr (Ka s)) (Ga J0 O O O) O (JLh (E4 s.Covers) (Gf J8 O O O) O (JLm (Eh i46) O (JLh (.dptr [I64 y46.Bay,E1 y46.Rows]) (Gw (f:=G9.av) (xs:=s.Covers) (y:=y46) O O O He hy46 O) O (JLh (.agg [I64 y46.Bay,E1 y46.Rows]) (Gh Yk O O O) O (JLh (.ptr 1151 0) (Qo 1151 2 G63 O O) O (Jo (u:=.junk) (Jh (u:=.agg [I64 y46.Bay,E1 y46.Rows]) (ds:=[I64 y46.Bay,E1 y46.Rows]) Gb9 O O O O O O O O) (G7 (hK50 ?_))))))))))))
    refine Gx [(1,Eb s),(5,Eh i46),(6,.dptr [I64 y46.Bay,E1 y46.Rows])] [] 1151 rfl rfl rfl G rfl (by exact⟨.conv (.same rfl),.conv (.same rfl),.ptr,G⟩) (Js fun hK51=>Jr fun hK52=>(JLh (.dptr [I64 y46.Bay,E1 y46.Rows]) (Ga G04 O O O) O (JLh (I64 y46.Bay) (Gf Gd O O O) O ?_)))
    obtain⟨r53,hr53,h⟩:=Gc h
    refine JLh (BL r53) (Gm O (J4 y46.Bay 0 39 r53 hr53) Zn ⟨O,O,O,O,O,O,G⟩) O (JLh (BL (!r53)) (Q7 (b:=r53) O O) O (JLm (BL (!r53)) O (JLo (.dptr [E1 y46.Rows]) [] O .scf G (fun hc=>Ga Q5 O O O) O (JLo (E1 y46.Rows) [99] O .scf ⟨Ua,G⟩ (fun hc=>Gf Hw O O O) O (JLo (Eh y46.Rows.length) [100] O .scf ⟨Ua,G⟩ (fun hc=>Qe (f:=I64) (xs:=y46.Rows) Gs O O) O (JLo (BL (decide ((y46.Rows.length:Int)=0))) [101] O .scf ⟨Ua,G⟩ (fun hc=>Jw O O O) O (JLh (BL ((!r53)||(decide ((y46.Rows.length:Int)=0)))) (Y4 O O O O) O (G7 (hK52 (JCc O h (fun h hb=>?_) (fun h hb=>?_)))))))))))
    ·
     refine Jr fun hK54=>(JLm (BL false) O (G7 (hK54 (Gn (fin1 BL h)))))
    ·
     refine Gk (hK51 (Jr fun hK55=>(JLm (I64 0) O (G7 (hK55 (Gq ?_))))))
     obtain⟨b56,kx56,hb56,hkx56,h⟩:=J3 h
     refine Hd (fun i56 (s56:Unit)=>each b56 kx56 (List.drop i56 y46.Rows) i56 s56=some r) (fun i56 s56=>[(1,Eb s),(5,Eh i46),(6,.dptr [I64 y46.Bay,E1 y46.Rows]),(7,Eh i56)]) (fun i56 s56=>[]) (fun i56=>y46.Rows.length - i56) 0 () h ⟨(.sm O O),G,rfl⟩ ?_
     clear h
     intro i56 s56 hi56 K56 e56
     refine Js fun hK57=>Jr fun hK58=>(JLm (Eh i56) O (JLh (.dptr [E1 y46.Rows]) (Ga Q5 O O O) O (JLh (E1 y46.Rows) (Gf Hw O O O) O (JLl Gs O O O fun hm107=>(JLh (BL (decide ((i56:Int) < (y46.Rows.length:Int)))) (Hz O O O) O (G7 (hK58 (Gi O (fun hb=>?_) (fun hb=>?_)))))))))
     ·
      have hk56:=Jj hb
      obtain⟨y56,nx56,hy56,hn56,h⟩:=Hu hi56 hk56
      replace h:=Z9 hb56 h
      refine Gk (hK57 (Js fun hK59=>Gq (Js fun hK60=>Js fun hK61=>?_)))
      obtain⟨r62,hr62,h⟩:=Gc h
      obtain⟨v63,hv63,h⟩:=Gc h
      obtain⟨y64,hy64,h⟩:=Gc h
      refine JC_d0 J6 (by kernel_rfl) (Dq (.dptr [E1 y46.Rows]) (Ga Q5 O O O) O (Dq (E1 y46.Rows) (Gf Hw O O O) O (Dq (Eh i56) (G4 O O) O (Dq (.dptr [I64 y56]) (Gw (f:=I64) (xs:=y46.Rows) (y:=y56) O O O Gs hy56 O) O (Dq (I64 y56) (Gf Gd O O O) O (Dq (BL r62) (Gm (args:=[I64 y56,I64 0,I64 30]) O (J4 y56 0 30 r62 hr62) Zn ⟨O,O,O,O,O,O,G⟩) O (Dq (BL (!r62)) (Q7 (b:=r62) O O) O (Dq (BL (!r62)) (G4 O O) O (Do (Eh i56) [] O .scf G (fun hc=>G4 O O) O (Do (BL (decide (0 < (i56:Int)))) [119] O .scf ⟨Ua,G⟩ (fun hc=>G30 O O O) O (Do (BL (decide (0 < (i56:Int)))) [120] O .scf ⟨Ua,G⟩ (fun hc=>G4 O O) O (Do (.dptr [E1 y46.Rows]) [] O .optt G (fun hc=>Ga Q5 O O O) O (Do (E1 y46.Rows) [122] O .optt ⟨Ua,G⟩ (fun hc=>Gf Hw O O O) O ?_)))))))))))))
      refine Do (Eh i56) [] O .optt G (fun hc=>G4 O O) O (Do (I64 v63) [124] O .optt ⟨Ua,G⟩ (fun hc=>Gcc (Zo (Gu hc hv63)) O O O) O (Do (.dptr [I64 y64]) [123,125] O .optt ⟨Ua,Ua,G⟩ (fun hc=>(match Jx (Gu hc hy64) with | ⟨_,hm_,hy_⟩=>Gw (f:=I64) (xs:=y46.Rows) (y:=y64) O O O Gs hy_ hm_)) O (Do (I64 y64) [126] O .optt ⟨Ua,G⟩ (fun hc=>Gf Gd O O O) O (Do (.dptr [E1 y46.Rows]) [] O .optt G (fun hc=>Ga Q5 O O O) O (Do (E1 y46.Rows) [128] O .optt ⟨Ua,G⟩ (fun hc=>Gf Hw O O O) O (Do (Eh i56) [] O .optt G (fun hc=>G4 O O) O (Do (.dptr [I64 y56]) [129,130] O .optt ⟨Ua,Ua,G⟩ (fun hc=>Gw (f:=I64) (xs:=y46.Rows) (y:=y56) O O O Gs hy56 O) O (Do (I64 y56) [131] O .optt ⟨Ua,G⟩ (fun hc=>Gf Gd O O O) O (Do (BL (decide (y56≤y64))) [127,132] O .optt ⟨Ua,Ua,G⟩ (fun hc=>Zf O O O) O (Dg (.opt (!(!r62)) (BL ((decide (0 < (i56:Int)))&&(decide (y56≤y64))))) (Ge [(121,BL (decide (0 < (i56:Int)))),(133,_)] O O O .scf ⟨.all id,.part,G⟩ (fun hc=>Hy O O O O) O) O (Dq (BL ((!r62)||((decide (0 < (i56:Int)))&&(decide (y56≤y64))))) (Y4 O O O O) O (Dnil ?_))))))))))))
      refine hK61 (JCc O h (fun h hb=>?_) (fun h hb=>?_))
      ·
       refine Jr fun hK65=>(JLm (BL false) O (G7 (hK65 (Gn (fin1 BL h)))))
      ·
       refine Gk (hK60 (Jr fun hK66=>(JLm (I64 0) O (G7 (hK66 (Gq ?_))))))
       obtain⟨hx84,h⟩:=Hr h
       obtain⟨b84,kx84,hb84,hkx84,h⟩:=G4d h
       refine Hd (fun i84 (s84:Unit)=>upto b84 kx84 ((i46:Int).toNat - i84) i84 s84=some r) (fun i84 s84=>[(1,Eb s),(5,Eh i46),(6,.dptr [I64 y46.Bay,E1 y46.Rows]),(7,Eh i56),(8,Eh i84)]) (fun i84 s84=>[]) (fun i84=>(i46:Int).toNat - i84) 0 () h ⟨(.sm O O),G,rfl⟩ ?_
       clear h
       intro i84 s84 hi84 K84 e84
       refine Js fun hK85=>Jr fun hK86=>(JLm (Eh i84) O (JLm (Eh i46) O (JLh (BL (decide ((i84:Int) < (i46:Int)))) (Hz O O O) O (G7 (hK86 (Gi O (fun hb=>?_) (fun hb=>?_)))))))
       ·
        have hk84:=G21 hb
        obtain⟨nx84,hn84,h⟩:=G1e hi84 hk84
        replace h:=Hba hb84 h
        refine Gk (hK85 (Js fun hK87=>Gq (Js fun hK88=>?_)))
        obtain⟨m90,y89,hm90,hy89,h⟩:=R1 h
        obtain⟨y91,hy91,h⟩:=Gc h
        obtain⟨r92,hr92,h⟩:=Gc h
        refine JC_d0 J6 (by kernel_rfl) (Dq (.dptr (Ka s)) (Ga J0 O O O) O (Dq (E4 s.Covers) (Gf J8 O O O) O (Dq (Eh i84) (G4 O O) O (Dq (.dptr [I64 y89.Bay,E1 y89.Rows]) (Gw (f:=G9.av) (xs:=s.Covers) (y:=y89) O O O He hy89 hm90) O (Dq (.dptr [I64 y89.Bay,E1 y89.Rows]) (Ga G04 O O O) O (Dq (I64 y89.Bay) (Gf Gd O O O) O (Dq (.dptr [I64 y46.Bay,E1 y46.Rows]) (Ga G04 O O O) O (Dq (I64 y46.Bay) (Gf Gd O O O) O (Dq (BL (decide (y89.Bay=y46.Bay))) (Jw O O O) O (Dq (BL (decide (y89.Bay=y46.Bay))) (G4 O O) O (Do (.dptr (Ka s)) [] O .sct G (fun hc=>Ga J0 O O O) O (Do (E4 s.Covers) [151] O .sct ⟨Ua,G⟩ (fun hc=>Gf J8 O O O) O (Do (Eh i84) [] O .sct G (fun hc=>G4 O O) O ?_)))))))))))))
        refine Do (.dptr [I64 y91.Bay,E1 y91.Rows]) [152,153] O .sct ⟨Ua,Ua,G⟩ (fun hc=>(match Jx (Gu hc hy91) with | ⟨_,hm_,hy_⟩=>Gw (f:=G9.av) (xs:=s.Covers) (y:=y91) O O O He hy_ hm_)) O (Do (.dptr [E1 y91.Rows]) [154] O .sct ⟨Ua,G⟩ (fun hc=>Ga Q5 O O O) O (Do (E1 y91.Rows) [155] O .sct ⟨Ua,G⟩ (fun hc=>Gf Hw O O O) O (Do (.dptr [E1 y46.Rows]) [] O .sct G (fun hc=>Ga Q5 O O O) O (Do (E1 y46.Rows) [157] O .sct ⟨Ua,G⟩ (fun hc=>Gf Hw O O O) O (Do (Eh i56) [] O .sct G (fun hc=>G4 O O) O (Do (.dptr [I64 y56]) [158,159] O .sct ⟨Ua,Ua,G⟩ (fun hc=>Gw (f:=I64) (xs:=y46.Rows) (y:=y56) O O O Gs hy56 O) O (Do (I64 y56) [160] O .sct ⟨Ua,G⟩ (fun hc=>Gf Gd O O O) O (Do (BL r92) [156,161] O .sct ⟨Ua,Ua,G⟩ (fun hc=>Gm (args:=[E1 y91.Rows,I64 y56]) O (G9e y91.Rows y56 r92 (Gu hc hr92)) J81 ⟨O,O,O,O,G⟩) O (Dq (BL ((decide (y89.Bay=y46.Bay))&&r92)) (Hy O O O O) O (Dnil ?_))))))))))
        refine hK88 (JCc O h (fun h hb=>?_) (fun h hb=>?_))
        ·
         refine Jr fun hK93=>(JLm (BL false) O (G7 (hK93 (Gn (fin1 BL h)))))
        ·
         refine Gk (hK87 (G2 (JLm (Eh i84) O (JLh (I64 ((i84+1:Nat):Int)) (Hs (Hf hk84 (Zj hx84)) O O O) O (JLm (I64 ((i84+1:Nat):Int)) O (G7 (e84 _ _ (i84+1) () (app1 hn84 h) (by omega) ⟨(.sm O O),G,rfl⟩)))))))
       ·
        have h:=app1 hkx84 (G1f hi84 (Qu hb))
        refine Hn (hK59 (G2 (JLm (Eh i56) O (JLh (I64 ((i56+1:Nat):Int)) (Hs (Hf hk56 hm107) O O O) O (JLm (I64 ((i56+1:Nat):Int)) O (G7 (e56 _ _ (i56+1) () (app1 hn56 h) (by omega) ⟨(.sm O O),G,rfl⟩)))))))
     ·
      have h:=app1 hkx56 (Hv hi56 (Ha hb))
      refine Hn (hK49 (G2 (JLm (Eh i46) O (JLh (I64 ((i46+1:Nat):Int)) (Hs (Hf hk46 hm85) O O O) O (JLm (I64 ((i46+1:Nat):Int)) O (G7 (e46 _ _ (i46+1) () (app1 hn46 h) (by omega) ⟨(.sm O O),G,rfl⟩)))))))
   ·
    have h:=app1 hkx46 (Hv hi46 (Ha hb))
    refine Hn (hK44 (Jr fun hK94=>(JLm (BL true) O (G7 (hK94 (Gn (fin1 BL h)))))))

def Rz (boxes:List Box) (id_:Int):Option (Box×Bool):=
 each (fun y21 i21 (s21:Unit) nx21=>
  bif decide (y21.ID=id_) then
  (some (y21,true))
  else
  (nx21 ()))
 (fun(s21:Unit)=>
  some ((Box.mk 0 ByteArray.empty 0 false 0 0 0 0 false),false)) boxes 0 ()
theorem G5f (boxes:List Box) (id_:Int) (r:Box×Bool) (h:Rz boxes id_=some r):Pure Ei 51 [E3 boxes,I64 id_] (·=.tup [.agg (Box.cs r.1),BL r.2]):=by
 unfold Rz at h
 refine Gz [.cell 4 72,.tmp 5] Tryz.func51 O O (Jr fun hK1=>(JLh (.ptr 1069 0) (G47 1069 [I64 0,ST ByteArray.empty,U8 0,BL false,I64 0,I64 0,I64 0,U8 0,BL false] [E0,.string ByteArray.empty,.int .u8 0,.bool false,E0,E0,E0,.int .u8 0,.bool false] G13 ⟨.inl O,.inl O,.inl O,.inl O,.inl O,.inl O,.inl O,.inl O,.inl O,G⟩ O O) O (JLm (BL false) O (G7 (hK1 (Js fun hK2=>Jr fun hK3=>(JLm (I64 0) O (G7 (hK3 (Gq ?_))))))))))
 obtain⟨b21,kx21,hb21,hkx21,h⟩:=J3 h
 refine Hd (fun i21 (s21:Unit)=>each b21 kx21 (List.drop i21 boxes) i21 s21=some r) (fun i21 s21=>[(0,E3 boxes),(1,I64 id_),(4,.ptr 1069 0),(6,Eh i21)]) (fun i21 s21=>[(1069,.box 72 [I64 0,ST ByteArray.empty,U8 0,BL false,I64 0,I64 0,I64 0,U8 0,BL false])]) (fun i21=>boxes.length - i21) 0 () h ⟨(.sm O O),⟨⟨_,rfl,.boxL rfl (.sm O O)⟩,G⟩,rfl⟩ ?_
 clear h
 intro i21 s21 hi21 K21 e21
 refine Js fun hK22=>Jr fun hK23=>(JLm (Eh i21) O (JLm (E3 boxes) O (JLl Jq O O O fun hm9=>(JLh (BL (decide ((i21:Int) < (boxes.length:Int)))) (Hz O O O) O (G7 (hK23 (Gi O (fun hb=>?_) (fun hb=>?_))))))))
 ·
  have hk21:=Jj hb
  obtain⟨y21,nx21,hy21,hn21,h⟩:=Hu hi21 hk21
  replace h:=Z9 hb21 h
  refine Gk (hK22 (Js fun hK24=>Gq (Jr fun hK25=>(JLm (E3 boxes) O (JLm (Eh i21) O (JLh (Ee y21) (Gw (f:=Box.av) (xs:=boxes) (y:=y21) O O O Jq hy21 O) O (JLh (Ee y21) (Ga J08 O O O) O (JLh (I64 y21.ID) (Gf Gd O O O) O (JLm (I64 id_) O (JLh (BL (decide (y21.ID=id_))) (Jw O O O) O (G7 (hK25 (JCc O h (fun h hb=>?_) (fun h hb=>?_))))))))))))))
  ·
   refine Jr fun hK26=>(JLm (E3 boxes) O (JLm (Eh i21) O (JLh (Ee y21) (Gw (f:=Box.av) (xs:=boxes) (y:=y21) O O O Jq hy21 O) O (JLh (.agg (Box.cs y21)) (Gh G4b O O O) O (Jo (u:=.junk) (Jh (u:=.agg (Box.cs y21)) (ds:=(Box.cs y21)) G29 O O O O O O O O) (JLm (BL true) O (G7 (hK26 (Gn (⟨[.agg (Box.cs y21),BL true],[],G,O,⟨⟨_,⟨_,_,_,_,O,O,O,.inl ⟨G4b,O⟩⟩,.conv (.same O)⟩,⟨_,O,.conv (.same O)⟩,G⟩,O,congrArg (fun r:Box×Bool=>(.tup [.agg (Box.cs r.1),BL r.2]:AV)) (Option.some.inj h)⟩))))))))))
  ·
   refine Gk (hK24 (G2 (JLm (Eh i21) O (JLh (I64 ((i21+1:Nat):Int)) (Hs (Hf hk21 hm9) O O O) O (JLm (I64 ((i21+1:Nat):Int)) O (G7 (e21 _ _ (i21+1) () (app1 hn21 h) (by omega) ⟨(.sm O O),⟨⟨_,rfl,.boxL rfl (.sm O O)⟩,G⟩,rfl⟩)))))))
 ·
  have h:=app1 hkx21 (Hv hi21 (Ha hb))
  refine Hn (hK2 ?_)
  refine Jr fun hK27=>(JLh (.agg [I64 0,ST ByteArray.empty,U8 0,BL false,I64 0,I64 0,I64 0,U8 0,BL false]) (Jp (cs:=[I64 0,ST ByteArray.empty,U8 0,BL false,I64 0,I64 0,I64 0,U8 0,BL false]) [(0,1),(1,1),(2,1),(3,1),(4,1),(5,1),(6,1),(7,1),(8,1)] [I64 0,ST ByteArray.empty,U8 0,BL false,I64 0,I64 0,I64 0,U8 0,BL false] [E0,.string ByteArray.empty,.int .u8 0,.bool false,E0,E0,E0,.int .u8 0,.bool false] G16 G13 ⟨.inl O,.inl O,.inl O,.inl O,.inl O,.inl O,.inl O,.inl O,.inl O,G⟩ O O) O (Jo (u:=.junk) (Jh (u:=.agg [I64 0,ST ByteArray.empty,U8 0,BL false,I64 0,I64 0,I64 0,U8 0,BL false]) (ds:=[I64 0,ST ByteArray.empty,U8 0,BL false,I64 0,I64 0,I64 0,U8 0,BL false]) G29 O O O O O O O O) (JLm (BL false) O (G7 (hK27 ?_)))))
  refine Gn (⟨[.agg [I64 0,ST ByteArray.empty,U8 0,BL false,I64 0,I64 0,I64 0,U8 0,BL false],BL false],[],G,O,⟨⟨_,⟨_,_,_,_,O,O,O,.inl ⟨G4b,O⟩⟩,.conv (.same O)⟩,⟨_,O,.conv (.same O)⟩,G⟩,O,congrArg (fun r:Box×Bool=>(.tup [.agg (Box.cs r.1),BL r.2]:AV)) (Option.some.inj h)⟩)

def Yr (s:H0) (x:Slot) (size:Int):Option Bool:=
 bnd (bif (!(((decide (x.G3 < 0))||(decide ((s.Columns.length:Int)≤x.G3)))||(decide (x.Tier < 0)))) then Qq s.Columns x.G3 some else some default) fun y4=>
 bif ((((decide (x.G3 < 0))||(decide ((s.Columns.length:Int)≤x.G3)))||(decide (x.Tier < 0)))||(decide (y4.Tiers≤x.Tier))) then
 (some false)
 else
 (some (((decide (size=40))&&(decide (x.Half=0)))||((decide (size=20))&&((decide (x.Half=1))||(decide (x.Half=2))))))
theorem Gab (s:H0) (x:Slot) (size:Int) (r:Bool) (h:Yr s x size=some r):Pure Ei 53 [.agg (H0.cs s),.agg [I64 x.G3,I64 x.Tier,U8 x.Half],I64 size] (·=BL r):=by
 unfold Yr at h
 refine Gz [.tmp 6] Tryz.func53 O O (Jr fun hK1=>(JLh (.ptr 1070 0) (Je (cs:=(H0.cs s)) 1070 O O O O O) O (JLh (.ptr 1071 0) (Je (cs:=[I64 x.G3,I64 x.Tier,U8 x.Half]) 1071 O O O O O) O (JLm (BL false) O (G7 (hK1 ?_))))))
 refine Gx [(2,I64 size),(3,Eb s),(4,.ptr 1071 0)] [(1071,.box 37 [I64 x.G3,I64 x.Tier,U8 x.Half])] 1070 rfl rfl rfl ⟨⟨_,rfl,.boxEq rfl rfl⟩,G⟩ rfl (by exact⟨.conv (.same rfl),.ptr,.conv (.same rfl),G⟩) ?_
 refine Gx [(2,I64 size),(3,Eb s),(4,.dptr [I64 x.G3,I64 x.Tier,U8 x.Half])] [] 1071 rfl rfl rfl G rfl (by exact⟨.conv (.same rfl),.conv (.same rfl),.ptr,G⟩) (Js fun hK2=>Js fun hK3=>?_)
 obtain⟨y4,hy4,h⟩:=Gc h
 refine JC_d0 J6 (by kernel_rfl) (Dq (.dptr [I64 x.G3,I64 x.Tier,U8 x.Half]) (Ga J2 O O O) O (Dq (I64 x.G3) (Gf Gd O O O) O (Dq (BL (decide (x.G3 < 0))) (Hz O O O) O (Dq (BL (decide (x.G3 < 0))) (G4 O O) O (Do (.dptr [I64 x.G3,I64 x.Tier,U8 x.Half]) [] O .scf G (fun hc=>Ga J2 O O O) O (Do (I64 x.G3) [11] O .scf ⟨Ua,G⟩ (fun hc=>Gf Gd O O O) O (Do (Eb s) [] O .scf G (fun hc=>Ga Hi O O O) O (Do (E5 s.Columns) [13] O .scf ⟨Ua,G⟩ (fun hc=>Gf Ht O O O) O (Do (Eh s.Columns.length) [14] O .scf ⟨Ua,G⟩ (fun hc=>Qe (f:=G3.av) (xs:=s.Columns) H4 O O) O (Do (BL (decide ((s.Columns.length:Int)≤x.G3))) [12,15] O .scf ⟨Ua,Ua,G⟩ (fun hc=>Zf O O O) O (Dq (BL ((decide (x.G3 < 0))||(decide ((s.Columns.length:Int)≤x.G3)))) (Y4 O O O O) O (Dq (BL ((decide (x.G3 < 0))||(decide ((s.Columns.length:Int)≤x.G3)))) (G4 O O) O (Do (.dptr [I64 x.Tier,U8 x.Half]) [] O .scf G (fun hc=>Ga Qi O O O) O ?_)))))))))))))
 refine Do (I64 x.Tier) [19] O .scf ⟨Ua,G⟩ (fun hc=>Gf Gd O O O) O (Do (BL (decide (x.Tier < 0))) [20] O .scf ⟨Ua,G⟩ (fun hc=>Hz O O O) O (Dq (BL (((decide (x.G3 < 0))||(decide ((s.Columns.length:Int)≤x.G3)))||(decide (x.Tier < 0)))) (Y4 O O O O) O (Dq (BL (((decide (x.G3 < 0))||(decide ((s.Columns.length:Int)≤x.G3)))||(decide (x.Tier < 0)))) (G4 O O) O (Do (.dptr [I64 x.Tier,U8 x.Half]) [] O .scf G (fun hc=>Ga Qi O O O) O (Do (I64 x.Tier) [24] O .scf ⟨Ua,G⟩ (fun hc=>Gf Gd O O O) O (Do (Eb s) [] O .scf G (fun hc=>Ga Hi O O O) O (Do (E5 s.Columns) [26] O .scf ⟨Ua,G⟩ (fun hc=>Gf Ht O O O) O (Do (.dptr [I64 x.G3,I64 x.Tier,U8 x.Half]) [] O .scf G (fun hc=>Ga J2 O O O) O (Do (I64 x.G3) [28] O .scf ⟨Ua,G⟩ (fun hc=>Gf Gd O O O) O (Do (Ed y4) [27,29] O .scf ⟨Ua,Ua,G⟩ (fun hc=>(match Jx (Gu hc hy4) with | ⟨_,hm_,hy_⟩=>Gw (f:=G3.av) (xs:=s.Columns) (y:=y4) O O O H4 hy_ hm_)) O (Do (.dptr ((G3.cs y4).drop 3)) [30] O .scf ⟨Ua,G⟩ (fun hc=>Ga G17 O O O) O (Do (I64 y4.Tiers) [31] O .scf ⟨Ua,G⟩ (fun hc=>Gf Gd O O O) O (Do (BL (decide (y4.Tiers≤x.Tier))) [25,32] O .scf ⟨Ua,Ua,G⟩ (fun hc=>Zf O O O) O ?_)))))))))))))
 refine Dq (BL ((((decide (x.G3 < 0))||(decide ((s.Columns.length:Int)≤x.G3)))||(decide (x.Tier < 0)))||(decide (y4.Tiers≤x.Tier)))) (Y4 O O O O) O (Dnil (hK3 (JCc O h (fun h hb=>?_) (fun h hb=>?_))))
 ·
  refine Jr fun hK5=>(JLm (BL false) O (G7 (hK5 (Gn (fin1 BL h)))))
 ·
  refine Gk (hK2 (Jr fun hK6=>(JLm (I64 size) O (JLh (BL (decide (size=40))) (Jw O O O) O (JLm (BL (decide (size=40))) O (JLo (.dptr [U8 x.Half]) [] O .sct G (fun hc=>Ga Ju O O O) O (JLo (U8 x.Half) [38] O .sct ⟨Ua,G⟩ (fun hc=>Gf J9 O O O) O (JLo (BL (decide (x.Half=0))) [39] O .sct ⟨Ua,G⟩ (fun hc=>Jw O O O) O (JLh (BL ((decide (size=40))&&(decide (x.Half=0)))) (Hy O O O O) O (JLm (BL ((decide (size=40))&&(decide (x.Half=0)))) O (JLo (I64 size) [] O .scf G (fun hc=>G4 O O) O (JLo (BL (decide (size=20))) [43] O .scf ⟨Ua,G⟩ (fun hc=>Jw O O O) O (JLo (BL (decide (size=20))) [44] O .scf ⟨Ua,G⟩ (fun hc=>G4 O O) O (JLo (.dptr [U8 x.Half]) [] O .optt G (fun hc=>Ga Ju O O O) O (JLo (U8 x.Half) [46] O .optt ⟨Ua,G⟩ (fun hc=>Gf J9 O O O) O ?_)))))))))))))))
  refine JLo (BL (decide (x.Half=1))) [47] O .optt ⟨Ua,G⟩ (fun hc=>Jw O O O) O (JLo (BL (decide (x.Half=1))) [48] O .optt ⟨Ua,G⟩ (fun hc=>G4 O O) O (JLo (.dptr [U8 x.Half]) [] O .optf G (fun hc=>Ga Ju O O O) O (JLo (U8 x.Half) [50] O .optf ⟨Ua,G⟩ (fun hc=>Gf J9 O O O) O (JLo (BL (decide (x.Half=2))) [51] O .optf ⟨Ua,G⟩ (fun hc=>Jw O O O) O (G8 (u:=BL ((decide (x.Half=1))||(decide (x.Half=2)))) [(49,BL (decide (x.Half=1))),(52,_)] O O O .optt ⟨.all id,.part,G⟩ (fun hc=>Y4 O O O O) ?_)))))
  refine G8 (u:=BL ((decide (size=20))&&((decide (x.Half=1))||(decide (x.Half=2))))) [(45,BL (decide (size=20))),(53,_)] O O O .scf ⟨.all id,.part,G⟩ (fun hc=>Hy O O O O) ?_
  refine JLh (BL (((decide (size=40))&&(decide (x.Half=0)))||((decide (size=20))&&((decide (x.Half=1))||(decide (x.Half=2)))))) (Y4 O O O O) O (JLm (BL (((decide (size=40))&&(decide (x.Half=0)))||((decide (size=20))&&((decide (x.Half=1))||(decide (x.Half=2)))))) O (G7 (hK6 (Gn (fin1 BL h)))))

def Yo (l:List Stowed):Option (List Slot):=
 each (fun y16 i16 (s16:(List Slot)) nx16=>
  need (decide ((s16.length+[y16.Slot].length)*24≤140737488355328∧s16.length+[y16.Slot].length≤maxLen)) <|
  nx16 (s16++[y16.Slot]))
 (fun(s16:(List Slot))=>
  some s16) l 0 []
theorem Gaa (l:List Stowed) (r:(List Slot)) (h:Yo l=some r):Pure Ei 58 [E2 l] (·=E9 r):=by
 unfold Yo at h
 refine Gz [.tmp 2] Tryz.func58 O O (Jr fun hK1=>(JLh (E9 ([]:List Slot)) (Hb 3 O O) O (G7 (hK1 (Jr fun hK2=>(JLh (OW 1076 3 Slot.av ([]:List Slot)) (G6e 1076 37 3 O O O) O (G7 (hK2 (Js fun hK3=>Jr fun hK4=>(JLm (I64 0) O (G7 (hK4 (Gq ?_)))))))))))))
 obtain⟨b16,kx16,hb16,hkx16,h⟩:=J3 h
 refine Hd (fun i16 (s16:(List Slot))=>each b16 kx16 (List.drop i16 l) i16 s16=some r) (fun i16 s16=>[(0,E2 l),(3,OW 1076 3 Slot.av s16),(4,Eh i16)]) (fun i16 s16=>[(1076,.spare 37 3 s16.length s16.length)]) (fun i16=>l.length - i16) 0 [] h ⟨(.sm O O),⟨⟨_,O,.same⟩,G⟩,O⟩ ?_
 clear h
 intro i16 s16 hi16 K16 e16
 refine Js fun hK17=>Jr fun hK18=>(JLm (Eh i16) O (JLm (E2 l) O (JLl Gt O O O fun hm7=>(JLh (BL (decide ((i16:Int) < (l.length:Int)))) (Hz O O O) O (G7 (hK18 (Gi O (fun hb=>?_) (fun hb=>?_))))))))
 ·
  have hk16:=Jj hb
  obtain⟨y16,nx16,hy16,hn16,h⟩:=Hu hi16 hk16
  replace h:=Z9 hb16 h
  refine Gk (hK17 (Js fun hK19=>Gq (G2 (JLm (OW 1076 3 Slot.av s16) O (JLm (E2 l) O (JLm (Eh i16) O (JLh (Ec y16) (Gw (f:=Stowed.av) (xs:=l) (y:=y16) O O O Gt hy16 O) O (JLh (.dptr ((Stowed.cs y16).drop 1)) (Ga Ho O O O) O (JLh (.agg ((Stowed.cs y16).drop 1)) (Gh Q4 O O O) O (JLh (E9 [y16.Slot]) (Hj (xs:=[.agg ((Stowed.cs y16).drop 1)]) O ⟨O,O,G⟩ Zk Hc7 O O O O) O ?_))))))))))
  obtain⟨ha20,h⟩:=Hr h
  refine JLh (OW 1076 3 Slot.av (s16++[y16.Slot])) (Qt (f:=Slot.av) (xs:=s16) (ys:=[y16.Slot]) O O O O Zk Jc3 ha20 (fun _=>O) (.inl O) O) O (JLm (OW 1076 3 Slot.av (s16++[y16.Slot])) O (G7 (hK19 (G2 (JLm (Eh i16) O (JLh (I64 ((i16+1:Nat):Int)) (Hs (Hf hk16 hm7) O O O) O (JLm (I64 ((i16+1:Nat):Int)) O (G7 (e16 _ _ (i16+1) (s16++[y16.Slot]) (app1 hn16 h) (by omega) ⟨(.sm O O),⟨⟨_,rfl,.same⟩,G⟩,rfl⟩)))))))))
 ·
  have h:=app1 hkx16 (Hv hi16 (Ha hb))
  refine Hn (hK3 (Jr fun hK21=>(JLm (OW 1076 3 Slot.av s16) O (JLm (OW 1076 3 Slot.av s16) O (G7 (hK21 (Gn (fin1l (fun r:(List Slot)=>(E9 r:AV)) h))))))))

def Re (l:List Slot) (x:Slot) (half:Int):Option Bool:=
 each (fun y23 i23 (s23:Unit) nx23=>
  bnd (bif decide (y23.G3=x.G3) then chk (x.Tier - 1) some else some 0) fun v28=>
  bif (((decide (y23.G3=x.G3))&&(decide (y23.Tier=v28)))&&(decide (y23.Half=half))) then
  (some true)
  else
  (nx23 ()))
 (fun(s23:Unit)=>
  some false) l 0 ()
theorem G36 (l:List Slot) (x:Slot) (half:Int) (r:Bool) (h:Re l x half=some r):Pure Ei 107 [E9 l,.agg [I64 x.G3,I64 x.Tier,U8 x.Half],U8 half] (·=BL r):=by
 unfold Re at h
 refine Gz [.tmp 6] Tryz.func107 O O (Jr fun hK1=>(JLh (.ptr 1122 0) (Je (cs:=[I64 x.G3,I64 x.Tier,U8 x.Half]) 1122 O O O O O) O (JLm (BL false) O (G7 (hK1 (Gx [(0,E9 l),(2,U8 half),(4,.dptr [I64 x.G3,I64 x.Tier,U8 x.Half])] [] 1122 rfl rfl rfl G rfl (by exact⟨.conv (.same rfl),.conv (.same rfl),.ptr,G⟩) (Js fun hK2=>Jr fun hK3=>(JLm (I64 0) O (G7 (hK3 (Gq ?_)))))))))))
 obtain⟨b23,kx23,hb23,hkx23,h⟩:=J3 h
 refine Hd (fun i23 (s23:Unit)=>each b23 kx23 (List.drop i23 l) i23 s23=some r) (fun i23 s23=>[(0,E9 l),(2,U8 half),(4,.dptr [I64 x.G3,I64 x.Tier,U8 x.Half]),(7,Eh i23)]) (fun i23 s23=>[]) (fun i23=>l.length - i23) 0 () h ⟨(.sm O O),G,rfl⟩ ?_
 clear h
 intro i23 s23 hi23 K23 e23
 refine Js fun hK24=>Jr fun hK25=>(JLm (Eh i23) O (JLm (E9 l) O (JLl Zk O O O fun hm10=>(JLh (BL (decide ((i23:Int) < (l.length:Int)))) (Hz O O O) O (G7 (hK25 (Gi O (fun hb=>?_) (fun hb=>?_))))))))
 ·
  have hk23:=Jj hb
  obtain⟨y23,nx23,hy23,hn23,h⟩:=Hu hi23 hk23
  replace h:=Z9 hb23 h
  refine Gk (hK24 (Js fun hK26=>Gq (Js fun hK27=>?_)))
  obtain⟨v28,hv28,h⟩:=Gc h
  refine JC_d0 J6 (by kernel_rfl) (Dq (E9 l) (G4 O O) O (Dq (Eh i23) (G4 O O) O (Dq (.dptr (Slot.cs y23)) (Gw (f:=Slot.av) (xs:=l) (y:=y23) O O O Zk hy23 O) O (Dq (.dptr (Slot.cs y23)) (Ga J2 O O O) O (Dq (I64 y23.G3) (Gf Gd O O O) O (Dq (.dptr [I64 x.G3,I64 x.Tier,U8 x.Half]) (Ga J2 O O O) O (Dq (I64 x.G3) (Gf Gd O O O) O (Dq (BL (decide (y23.G3=x.G3))) (Jw O O O) O (Dq (BL (decide (y23.G3=x.G3))) (G4 O O) O (Do (E9 l) [] O .sct G (fun hc=>G4 O O) O (Do (Eh i23) [] O .sct G (fun hc=>G4 O O) O (Do (.dptr (Slot.cs y23)) [23,24] O .sct ⟨Ua,Ua,G⟩ (fun hc=>Gw (f:=Slot.av) (xs:=l) (y:=y23) O O O Zk hy23 O) O (Do (.dptr [I64 y23.Tier,U8 y23.Half]) [25] O .sct ⟨Ua,G⟩ (fun hc=>Ga Qi O O O) O ?_)))))))))))))
  refine Do (I64 y23.Tier) [26] O .sct ⟨Ua,G⟩ (fun hc=>Gf Gd O O O) O (Do (.dptr [I64 x.Tier,U8 x.Half]) [] O .sct G (fun hc=>Ga Qi O O O) O (Do (I64 x.Tier) [28] O .sct ⟨Ua,G⟩ (fun hc=>Gf Gd O O O) O (Do (I64 v28) [29] O .sct ⟨Ua,G⟩ (fun hc=>Gcc (Zo (Gu hc hv28)) O O O) O (Do (BL (decide (y23.Tier=v28))) [27,30] O .sct ⟨Ua,Ua,G⟩ (fun hc=>Jw O O O) O (Dq (BL ((decide (y23.G3=x.G3))&&(decide (y23.Tier=v28)))) (Hy O O O O) O (Dq (BL ((decide (y23.G3=x.G3))&&(decide (y23.Tier=v28)))) (G4 O O) O (Do (E9 l) [] O .sct G (fun hc=>G4 O O) O (Do (Eh i23) [] O .sct G (fun hc=>G4 O O) O (Do (.dptr (Slot.cs y23)) [34,35] O .sct ⟨Ua,Ua,G⟩ (fun hc=>Gw (f:=Slot.av) (xs:=l) (y:=y23) O O O Zk hy23 O) O (Do (.dptr [U8 y23.Half]) [36] O .sct ⟨Ua,G⟩ (fun hc=>Ga Ju O O O) O (Do (U8 y23.Half) [37] O .sct ⟨Ua,G⟩ (fun hc=>Gf J9 O O O) O (Do (U8 half) [] O .sct G (fun hc=>G4 O O) O (Do (BL (decide (y23.Half=half))) [38,39] O .sct ⟨Ua,Ua,G⟩ (fun hc=>Jw O O O) O ?_)))))))))))))
  refine Dq (BL (((decide (y23.G3=x.G3))&&(decide (y23.Tier=v28)))&&(decide (y23.Half=half)))) (Hy O O O O) O (Dnil (hK27 (JCc O h (fun h hb=>?_) (fun h hb=>?_))))
  ·
   refine Jr fun hK29=>(JLm (BL true) O (G7 (hK29 (Gn (fin1 BL h)))))
  ·
   refine Gk (hK26 (G2 (JLm (Eh i23) O (JLh (I64 ((i23+1:Nat):Int)) (Hs (Hf hk23 hm10) O O O) O (JLm (I64 ((i23+1:Nat):Int)) O (G7 (e23 _ _ (i23+1) () (app1 hn23 h) (by omega) ⟨(.sm O O),G,rfl⟩)))))))
 ·
  have h:=app1 hkx23 (Hv hi23 (Ha hb))
  refine Hn (hK2 (Jr fun hK30=>(JLm (BL false) O (G7 (hK30 (Gn (fin1 BL h)))))))

def Z5 (x:Slot) (l:List Slot):Option Bool:=
 bif decide (x.Tier≤0) then
 (some true)
 else
 (bif decide (x.Half=0) then
  (bnd (Re l x 0) fun r8=>
   bnd (bif (!r8) then Re l x 1 else some default) fun r9=>
   bnd (bif ((!r8)&&r9) then Re l x 2 else some default) fun r10=>
   some (r8||(r9&&r10)))
  else
  (bnd (Re l x x.Half) fun r12=>
   some r12))
theorem Gc5 (x:Slot) (l:List Slot) (r:Bool) (h:Z5 x l=some r):Pure Ei 57 [.agg [I64 x.G3,I64 x.Tier,U8 x.Half],E9 l] (·=BL r):=by
 unfold Z5 at h
 refine Gz [.tmp 4] Tryz.func57 O O (Jr fun hK1=>(JLh (.ptr 1075 0) (Je (cs:=[I64 x.G3,I64 x.Tier,U8 x.Half]) 1075 O O O O O) O (JLm (BL false) O (G7 (hK1 (Gx [(1,E9 l),(2,.dptr [I64 x.G3,I64 x.Tier,U8 x.Half])] [] 1075 rfl rfl rfl G rfl (by exact⟨.conv (.same rfl),.ptr,G⟩) (Js fun hK2=>Jr fun hK3=>(JLh (.dptr [I64 x.Tier,U8 x.Half]) (Ga Qi O O O) O (JLh (I64 x.Tier) (Gf Gd O O O) O (JLh (BL (decide (x.Tier≤0))) (J12 O O O) O (G7 (hK3 (JCc O h (fun h hb=>?_) (fun h hb=>?_))))))))))))))
 ·
  refine Jr fun hK4=>(JLm (BL true) O (G7 (hK4 (Gn (fin1 BL h)))))
 ·
  refine Gk (hK2 (Js fun hK5=>Jr fun hK6=>(JLh (.dptr [U8 x.Half]) (Ga Ju O O O) O (JLh (U8 x.Half) (Gf J9 O O O) O (JLh (BL (decide (x.Half=0))) (Jw O O O) O (G7 (hK6 (JCc O h (fun h hb=>?_) (fun h hb=>?_)))))))))
  ·
   refine Jr fun hK7=>(JLm (E9 l) O (JLh (.agg [I64 x.G3,I64 x.Tier,U8 x.Half]) (Gh Q4 O O O) O ?_))
   obtain⟨r8,hr8,h⟩:=Gc h
   refine JLh (BL r8) (Gm O (G36 l x 0 r8 hr8) H5c ⟨O,O,O,O,O,O,G⟩) O (JLm (BL r8) O (JLo (E9 l) [] O .scf G (fun hc=>G4 O O) O (JLo (.agg [I64 x.G3,I64 x.Tier,U8 x.Half]) [] O .scf G (fun hc=>Gh Q4 O O O) O ?_)))
   obtain⟨r9,hr9,h⟩:=Gc h
   refine JLo (BL r9) [15,16] O .scf ⟨Ua,Ua,G⟩ (fun hc=>Gm (args:=[E9 l,.agg [I64 x.G3,I64 x.Tier,U8 x.Half],U8 1]) O (G36 l x 1 r9 (Gu hc hr9)) H5c ⟨O,O,O,O,O,O,G⟩) O (JLo (BL r9) [17] O .scf ⟨Ua,G⟩ (fun hc=>G4 O O) O (JLo (E9 l) [] O .optt G (fun hc=>G4 O O) O (JLo (.agg [I64 x.G3,I64 x.Tier,U8 x.Half]) [] O .optt G (fun hc=>Gh Q4 O O O) O ?_)))
   obtain⟨r10,hr10,h⟩:=Gc h
   refine JLo (BL r10) [19,20] O .optt ⟨Ua,Ua,G⟩ (fun hc=>Gm (args:=[E9 l,.agg [I64 x.G3,I64 x.Tier,U8 x.Half],U8 2]) O (G36 l x 2 r10 (Gu hc hr10)) H5c ⟨O,O,O,O,O,O,G⟩) O (G8 (u:=BL (r9&&r10)) [(18,BL r9),(21,_)] O O O .scf ⟨.all id,.part,G⟩ (fun hc=>Hy O O O O) ?_)
   refine JLh (BL (r8||(r9&&r10))) (Y4 O O O O) O (JLm (BL (r8||(r9&&r10))) O (G7 (hK7 (Gn (fin1 BL h)))))
  ·
   refine Gk (hK5 (Jr fun hK11=>(JLm (E9 l) O (JLh (.agg [I64 x.G3,I64 x.Tier,U8 x.Half]) (Gh Q4 O O O) O (JLh (.dptr [U8 x.Half]) (Ga Ju O O O) O (JLh (U8 x.Half) (Gf J9 O O O) O ?_))))))
   obtain⟨r12,hr12,h⟩:=Gc h
   refine JLh (BL r12) (Gm O (G36 l x x.Half r12 hr12) H5c ⟨O,O,O,O,O,O,G⟩) O (JLm (BL r12) O (G7 (hK11 (Gn (fin1 BL h)))))

def R8 (a:Int) (b:Int):Option Bool:=
 some (((decide (a=b))||(decide (a=0)))||(decide (b=0)))
theorem G9d (a:Int) (b:Int) (r:Bool) (h:R8 a b=some r):Pure Ei 106 [U8 a,U8 b] (·=BL r):=by
 unfold R8 at h
 refine Gz [.tmp 4] Tryz.func106 O O (Jr fun hK1=>(JLm (BL false) O (G7 (hK1 (Jr fun hK2=>(JLm (U8 a) O (JLm (U8 b) O (JLh (BL (decide (a=b))) (Jw O O O) O (JLm (BL (decide (a=b))) O (JLo (U8 a) [] O .scf G (fun hc=>G4 O O) O (JLo (BL (decide (a=0))) [9] O .scf ⟨Ua,G⟩ (fun hc=>Jw O O O) O (JLh (BL ((decide (a=b))||(decide (a=0)))) (Y4 O O O O) O (JLm (BL ((decide (a=b))||(decide (a=0)))) O (JLo (U8 b) [] O .scf G (fun hc=>G4 O O) O (JLo (BL (decide (b=0))) [13] O .scf ⟨Ua,G⟩ (fun hc=>Jw O O O) O (JLh (BL (((decide (a=b))||(decide (a=0)))||(decide (b=0)))) (Y4 O O O O) O (JLm (BL (((decide (a=b))||(decide (a=0)))||(decide (b=0)))) O (G7 (hK2 (Gn (fin1 BL h)))))))))))))))))))))

def Z4 (a:Slot) (b:Slot):Option Bool:=
 bnd (bif ((decide (a.G3=b.G3))&&(decide (a.Tier=b.Tier))) then R8 a.Half b.Half else some default) fun r3=>
 some (((decide (a.G3=b.G3))&&(decide (a.Tier=b.Tier)))&&r3)
theorem Gc4 (a:Slot) (b:Slot) (r:Bool) (h:Z4 a b=some r):Pure Ei 56 [.agg [I64 a.G3,I64 a.Tier,U8 a.Half],.agg [I64 b.G3,I64 b.Tier,U8 b.Half]] (·=BL r):=by
 unfold Z4 at h
 refine Gz [.tmp 4] Tryz.func56 O O (Jr fun hK1=>(JLh (.ptr 1073 0) (Je (cs:=[I64 a.G3,I64 a.Tier,U8 a.Half]) 1073 O O O O O) O (JLh (.ptr 1074 0) (Je (cs:=[I64 b.G3,I64 b.Tier,U8 b.Half]) 1074 O O O O O) O (JLm (BL false) O (G7 (hK1 (Gx [(2,.dptr [I64 a.G3,I64 a.Tier,U8 a.Half]),(3,.ptr 1074 0)] [(1074,.box 37 [I64 b.G3,I64 b.Tier,U8 b.Half])] 1073 rfl rfl rfl ⟨⟨_,rfl,.boxEq rfl rfl⟩,G⟩ rfl (by exact⟨.ptr,.conv (.same rfl),G⟩) (Gx [(2,.dptr [I64 a.G3,I64 a.Tier,U8 a.Half]),(3,.dptr [I64 b.G3,I64 b.Tier,U8 b.Half])] [] 1074 rfl rfl rfl G rfl (by exact⟨.conv (.same rfl),.ptr,G⟩) ?_))))))))
 refine Jr fun hK2=>(JLh (.dptr [I64 a.G3,I64 a.Tier,U8 a.Half]) (Ga J2 O O O) O (JLh (I64 a.G3) (Gf Gd O O O) O (JLh (.dptr [I64 b.G3,I64 b.Tier,U8 b.Half]) (Ga J2 O O O) O (JLh (I64 b.G3) (Gf Gd O O O) O (JLh (BL (decide (a.G3=b.G3))) (Jw O O O) O (JLm (BL (decide (a.G3=b.G3))) O (JLo (.dptr [I64 a.Tier,U8 a.Half]) [] O .sct G (fun hc=>Ga Qi O O O) O (JLo (I64 a.Tier) [11] O .sct ⟨Ua,G⟩ (fun hc=>Gf Gd O O O) O (JLo (.dptr [I64 b.Tier,U8 b.Half]) [] O .sct G (fun hc=>Ga Qi O O O) O (JLo (I64 b.Tier) [13] O .sct ⟨Ua,G⟩ (fun hc=>Gf Gd O O O) O (JLo (BL (decide (a.Tier=b.Tier))) [12,14] O .sct ⟨Ua,Ua,G⟩ (fun hc=>Jw O O O) O (JLh (BL ((decide (a.G3=b.G3))&&(decide (a.Tier=b.Tier)))) (Hy O O O O) O (JLm (BL ((decide (a.G3=b.G3))&&(decide (a.Tier=b.Tier)))) O ?_)))))))))))))
 refine JLo (.dptr [U8 a.Half]) [] O .sct G (fun hc=>Ga Ju O O O) O (JLo (U8 a.Half) [18] O .sct ⟨Ua,G⟩ (fun hc=>Gf J9 O O O) O (JLo (.dptr [U8 b.Half]) [] O .sct G (fun hc=>Ga Ju O O O) O (JLo (U8 b.Half) [20] O .sct ⟨Ua,G⟩ (fun hc=>Gf J9 O O O) O ?_)))
 obtain⟨r3,hr3,h⟩:=Gc h
 refine JLo (BL r3) [19,21] O .sct ⟨Ua,Ua,G⟩ (fun hc=>Gm (args:=[U8 a.Half,U8 b.Half]) O (G9d a.Half b.Half r3 (Gu hc hr3)) J80 ⟨O,O,O,O,G⟩) O (JLh (BL (((decide (a.G3=b.G3))&&(decide (a.Tier=b.Tier)))&&r3)) (Hy O O O O) O (JLm (BL (((decide (a.G3=b.G3))&&(decide (a.Tier=b.Tier)))&&r3)) O (G7 (hK2 (Gn (fin1 BL h))))))

def R7 (boxes:List Box) (l:List Stowed) (column:Int) (half:Int):Option Int:=
 each (fun y42 i42 (s42:Int) nx42=>
  jp (fun kj45=>
   bnd (Rz boxes y42.Box) fun r47=>
   bif (((!r47.2)||(decide (y42.Slot.G3≠column)))||((decide (y42.Slot.Half≠half))&&(decide (y42.Slot.Half≠0)))) then
   (kj45 s42)
   else
   (bif r47.1.High then
    (chk (s42+2896) fun v51=>
     kj45 v51)
    else
    (chk (s42+2591) fun v52=>
     kj45 v52))) fun(j45:Int)=>
  nx42 j45)
 (fun(s42:Int)=>
  some s42) l 0 0
theorem G9c (boxes:List Box) (l:List Stowed) (column:Int) (half:Int) (r:Int) (h:R7 boxes l column half=some r):Pure Ei 108 [E3 boxes,E2 l,I64 column,U8 half] (·=I64 r):=by
 unfold R7 at h
 refine Gz [.tmp 8] Tryz.func108 O O (Jr fun hK1=>(JLm (I64 0) O (G7 (hK1 (Jr fun hK2=>(JLm (I64 0) O (G7 (hK2 (Js fun hK3=>Jr fun hK4=>(JLm (I64 0) O (G7 (hK4 (Gq ?_)))))))))))))
 obtain⟨b42,kx42,hb42,hkx42,h⟩:=J3 h
 refine Hd (fun i42 (s42:Int)=>each b42 kx42 (List.drop i42 l) i42 s42=some r) (fun i42 s42=>[(0,E3 boxes),(1,E2 l),(2,I64 column),(3,U8 half),(9,I64 s42),(10,Eh i42)]) (fun i42 s42=>[]) (fun i42=>l.length - i42) 0 0 h ⟨(.sm O O),G,rfl⟩ ?_
 clear h
 intro i42 s42 hi42 K42 e42
 refine Js fun hK43=>Jr fun hK44=>(JLm (Eh i42) O (JLm (E2 l) O (JLl Gt O O O fun hm15=>(JLh (BL (decide ((i42:Int) < (l.length:Int)))) (Hz O O O) O (G7 (hK44 (Gi O (fun hb=>?_) (fun hb=>?_))))))))
 ·
  have hk42:=Jj hb
  obtain⟨y42,nx42,hy42,hn42,h⟩:=Hu hi42 hk42
  replace h:=Z9 hb42 h
  refine Gk (hK43 ?_)
  obtain⟨kj45,hkj45,h⟩:=G84 h
  refine G57 (fun j45:Int=>kj45 j45=some r) (fun j45=>[(0,E3 boxes),(1,E2 l),(2,I64 column),(3,U8 half),(9,I64 j45),(10,Eh i42)]) (fun j45=>[]) (fun Kj45 ej45=>?_) ?_
  ·
   refine Gq (Jr fun hK46=>(JLm (E3 boxes) O (JLm (E2 l) O (JLm (Eh i42) O (JLh (Ec y42) (Gw (f:=Stowed.av) (xs:=l) (y:=y42) O O O Gt hy42 O) O (JLh (Ec y42) (Ga Jc O O O) O (JLh (I64 y42.Box) (Gf Gd O O O) O ?_)))))))
   obtain⟨r47,hr47,h⟩:=Gc h
   refine JLh (.tup [.agg (Box.cs r47.1),BL r47.2]) (Gm O (G5f boxes y42.Box r47 hr47) J21 ⟨O,O,O,O,G⟩) O (JLm (.tup [.agg (Box.cs r47.1),BL r47.2]) O (JLh (.agg (Box.cs r47.1)) (Hk O O O) O (JLh (BL r47.2) (Hk O O O) O (JLh (.ptr 1123 0) (Qo 1123 9 G4e O O) O (Jo (u:=.junk) (Jh (u:=.agg (Box.cs r47.1)) (ds:=(Box.cs r47.1)) G29 O O O O O O O O) (JLm (BL r47.2) O (G7 (hK46 (Gx [(0,E3 boxes),(1,E2 l),(2,I64 column),(3,U8 half),(9,I64 s42),(10,Eh i42),(11,Ee r47.1),(12,BL r47.2)] [] 1123 rfl rfl rfl G rfl (by repeat' (first | exact .ptr | constructor)) ?_)))))))))
   refine Js fun hK48=>?_
   refine Jr fun hK49=>(JLm (BL r47.2) O (JLh (BL (!r47.2)) (Q7 (b:=r47.2) O O) O (JLm (BL (!r47.2)) O (JLo (E2 l) [] O .scf G (fun hc=>G4 O O) O (JLo (Eh i42) [] O .scf G (fun hc=>G4 O O) O (JLo (Ec y42) [32,33] O .scf ⟨Ua,Ua,G⟩ (fun hc=>Gw (f:=Stowed.av) (xs:=l) (y:=y42) O O O Gt hy42 O) O (JLo (.dptr ((Stowed.cs y42).drop 1)) [34] O .scf ⟨Ua,G⟩ (fun hc=>Ga Ho O O O) O (JLo (.dptr ((Stowed.cs y42).drop 1)) [35] O .scf ⟨Ua,G⟩ (fun hc=>Ga J2 O O O) O (JLo (I64 y42.Slot.G3) [36] O .scf ⟨Ua,G⟩ (fun hc=>Gf Gd O O O) O (JLo (I64 column) [] O .scf G (fun hc=>G4 O O) O (JLo (BL (decide (y42.Slot.G3≠column))) [37,38] O .scf ⟨Ua,Ua,G⟩ (fun hc=>G0e O O O) O (JLh (BL ((!r47.2)||(decide (y42.Slot.G3≠column)))) (Y4 O O O O) O (JLm (BL ((!r47.2)||(decide (y42.Slot.G3≠column)))) O ?_)))))))))))))
   refine JLo (E2 l) [] O .scf G (fun hc=>G4 O O) O (JLo (Eh i42) [] O .scf G (fun hc=>G4 O O) O (JLo (Ec y42) [42,43] O .scf ⟨Ua,Ua,G⟩ (fun hc=>Gw (f:=Stowed.av) (xs:=l) (y:=y42) O O O Gt hy42 O) O (JLo (.dptr ((Stowed.cs y42).drop 1)) [44] O .scf ⟨Ua,G⟩ (fun hc=>Ga Ho O O O) O (JLo (.dptr [U8 y42.Slot.Half]) [45] O .scf ⟨Ua,G⟩ (fun hc=>Ga Ju O O O) O (JLo (U8 y42.Slot.Half) [46] O .scf ⟨Ua,G⟩ (fun hc=>Gf J9 O O O) O (JLo (U8 half) [] O .scf G (fun hc=>G4 O O) O (JLo (BL (decide (y42.Slot.Half≠half))) [47,48] O .scf ⟨Ua,Ua,G⟩ (fun hc=>G0e O O O) O (JLo (BL (decide (y42.Slot.Half≠half))) [49] O .scf ⟨Ua,G⟩ (fun hc=>G4 O O) O (JLo (E2 l) [] O .optt G (fun hc=>G4 O O) O (JLo (Eh i42) [] O .optt G (fun hc=>G4 O O) O (JLo (Ec y42) [51,52] O .optt ⟨Ua,Ua,G⟩ (fun hc=>Gw (f:=Stowed.av) (xs:=l) (y:=y42) O O O Gt hy42 O) O (JLo (.dptr ((Stowed.cs y42).drop 1)) [53] O .optt ⟨Ua,G⟩ (fun hc=>Ga Ho O O O) O (JLo (.dptr [U8 y42.Slot.Half]) [54] O .optt ⟨Ua,G⟩ (fun hc=>Ga Ju O O O) O ?_)))))))))))))
   refine JLo (U8 y42.Slot.Half) [55] O .optt ⟨Ua,G⟩ (fun hc=>Gf J9 O O O) O (JLo (BL (decide (y42.Slot.Half≠0))) [56] O .optt ⟨Ua,G⟩ (fun hc=>G0e O O O) O (G8 (u:=BL ((decide (y42.Slot.Half≠half))&&(decide (y42.Slot.Half≠0)))) [(50,BL (decide (y42.Slot.Half≠half))),(57,_)] O O O .scf ⟨.all id,.part,G⟩ (fun hc=>Hy O O O O) ?_))
   refine JLh (BL (((!r47.2)||(decide (y42.Slot.G3≠column)))||((decide (y42.Slot.Half≠half))&&(decide (y42.Slot.Half≠0))))) (Y4 O O O O) O (G7 (hK49 (JCc O h (fun h hb=>?_) (fun h hb=>?_))))
   ·
    refine Hn (ej45 _ _ s42 h ⟨(.sm O O),G,rfl⟩)
   ·
    refine Gk (hK48 (Jr fun hK50=>(JLh (.dptr ((Box.cs r47.1).drop 3)) (Ga J07 O O O) O (JLh (BL r47.1.High) (Gf Yc O O O) O (G7 (hK50 (JCc O h (fun h hb=>?_) (fun h hb=>?_))))))))
    ·
     refine G2 (JLm (I64 s42) O ?_)
     obtain⟨v51,hv51,h⟩:=Q2 h
     refine JLh (I64 v51) (Hs hv51 O O O) O (JLm (I64 v51) O (G7 (ej45 _ _ v51 h ⟨(.sm O O),G,rfl⟩)))
    ·
     refine G2 (JLm (I64 s42) O ?_)
     obtain⟨v52,hv52,h⟩:=Q2 h
     refine JLh (I64 v52) (Hs hv52 O O O) O (JLm (I64 v52) O (G7 (ej45 _ _ v52 h ⟨(.sm O O),G,rfl⟩)))
  ·intro j45 h
   replace h:=app1 hkj45 h
   refine G2 (JLm (Eh i42) O (JLh (I64 ((i42+1:Nat):Int)) (Hs (Hf hk42 hm15) O O O) O (JLm (I64 ((i42+1:Nat):Int)) O (G7 (e42 _ _ (i42+1) j45 (app1 hn42 h) (by omega) ⟨(.sm O O),G,rfl⟩)))))
 ·
  have h:=app1 hkx42 (Hv hi42 (Ha hb))
  refine Hn (hK3 (Jr fun hK53=>(JLm (I64 s42) O (JLm (I64 s42) O (G7 (hK53 (Gn (fin1 I64 h))))))))
end
end Go.Proofs.YtecjdioomlhhiaaGreat
