/-
 Models of functions of the program,and that they return what the models say.
-/
import Derived.Test.YtbljcmgjmieffaaGreatSpecR
set_option linter.unnecessarySimpa false
set_option maxRecDepth 100000
set_option linter.unusedVariables false
set_option linter.unusedSimpArgs false
namespace Go.Proofs.YtbljcmgjmieffaaGreat
open Go.RowKit
noncomputable section
structure Gy where
 Bay:Int
 Row:Int
 Tiers:Int
 Deck:Bool
 deriving DecidableEq,Inhabited
def Gy.cs (x:Gy):List AV:=[U8 x.Bay,U8 x.Row,U8 x.Tiers,BL x.Deck]
def Gy.av (x:Gy):AV:=.agg x.cs
abbrev Eb:=LS 4 Gy.av
namespace XBF
open XAF
open XCF
open XGF
theorem Jdb:Gaa Ek 107 4=true:=by kernel_rfl
theorem Jd9:Hf Ek 22=true:=by kernel_rfl
theorem Jcd:Hf Ek 50=true:=by kernel_rfl
theorem Jbf:Hf Ek 78=true:=by kernel_rfl
theorem Jb9:Y4 Ek 55 12 112=true:=by kernel_rfl
theorem J22:Y4 Ek 70 2 32=true:=by kernel_rfl
theorem J21:Ju Ek 107 0 0=true:=by kernel_rfl
theorem J20:Ju Ek 107 1 1=true:=by kernel_rfl
theorem J1f:Ju Ek 107 2 2=true:=by kernel_rfl
theorem J1e:Ju Ek 107 3 3=true:=by kernel_rfl
theorem G08:Ha5 Ek 3 .i64=true:=by kernel_rfl
theorem G31:Ha5 Ek 5 .u8=true:=by kernel_rfl
theorem G14:placesOf Ek 55=some [(0,1),(1,1),(2,1),(3,1),(4,1),(5,1),(6,1),(7,1),(8,1),(9,1),(10,1),(11,1)]:=by kernel_rfl
theorem H10:placesOf Ek 70=some [(0,1),(1,1)]:=by kernel_rfl
theorem J95:Rn Ek 107 4=true:=by kernel_rfl
theorem J1a:Rn Ek 26 1=true:=by kernel_rfl
theorem J19:Rn Ek 27 1=true:=by kernel_rfl
theorem G3f:Rn Ek 3 1=true:=by kernel_rfl
theorem G13:Rn Ek 36 13=true:=by kernel_rfl
theorem Ge1:sliceB Ek 22 107 4=true:=by kernel_rfl
theorem Gc4:(Ek.info? 36).bind (fun i=>i.zero.map Value.cells)=some (List.toArray [.slice none 0 0,.slice none 0 0,.int .i64 0,.int .i64 0,.int .i64 0,.int .i64 0,.slice none 0 0,.slice none 0 0,.slice none 0 0,.int .i64 0,.int .i64 0,.int .i64 0,.int .i64 0]):=by kernel_rfl
theorem G5d:(Ek.info? 55).bind (fun i=>i.zero.map Value.cells)=some (List.toArray [.int .i64 0,.int .i64 0,.bool false,.int .i64 0,.int .i64 0,.int .i64 0,.int .i64 0,.int .i64 0,.slice none 0 0,.int .i64 0,.int .i64 0,.int .i64 0]):=by kernel_rfl
theorem H74:(Ek.info? 70).bind (fun i=>i.zero.map Value.cells)=some (List.toArray [.int .i64 0,.slice none 0 0]):=by kernel_rfl
theorem J85:Qu Ek 107 4=true:=by kernel_rfl
theorem G64:Qu Ek 36 13=true:=by kernel_rfl
end XBF
open XAF
open XCF
open XGF
open XBF

def G98 (c:G3) (p1:Int) (p2:Int) (p3:Bool):Option Bool:=
 some (((decide (c.Bay=p1))&&(decide (c.Row=p2)))&&(c.Deck==p3))
theorem J02 (c:G3) (p1:Int) (p2:Int) (p3:Bool) (r:Bool) (h:G98 c p1 p2 p3=some r):Pure Ek 78 [.agg (G3.cs c),.dptr [G0 p1],.dptr [G0 p2],.dptr [BL p3]] (·=BL r):=by
 unfold G98 at h
 refine H7 [.tmp 5] Tryz.func78 O O (Jr fun hK1=>(JLh (.ptr 1117 0) (Q9 (cs:=(G3.cs c)) 1117 O O O O O) O (Rt (BL false) O (G7 (hK1 (Gt [(1,.dptr [G0 p1]),(2,.dptr [G0 p2]),(3,.dptr [BL p3]),(4,Ee c)] [] 1117 rfl rfl rfl G rfl (by repeat' (first | exact .ptr | constructor)) ?_))))))
 refine Jr fun hK2=>(JLh (Ee c) (Gd Zw O O O) O (JLh (G0 c.Bay) (Gj Gg O O O) O (JLh (G0 p1) (Gj Gg O O O) O (JLh (BL (decide (c.Bay=p1))) (Jf O O O) O (Rt (BL (decide (c.Bay=p1))) O (JLo (.dptr [G0 c.Row,BL c.Deck,G0 c.Tiers,G0 c.Height,G0 c.Kilos20,G0 c.Kilos40,G0 c.Lash,E0 c.Plugs,G0 c.X,G0 c.Y,G0 c.Z]) [] O .sct G (fun hc=>Gd Zv O O O) O (JLo (G0 c.Row) [11] O .sct ⟨Ua,G⟩ (fun hc=>Gj Gg O O O) O (JLo (G0 p2) [] O .sct G (fun hc=>Gj Gg O O O) O (JLo (BL (decide (c.Row=p2))) [12,13] O .sct ⟨Ua,Ua,G⟩ (fun hc=>Jf O O O) O (JLh (BL ((decide (c.Bay=p1))&&(decide (c.Row=p2)))) (Q1 O O O O) O (Rt (BL ((decide (c.Bay=p1))&&(decide (c.Row=p2)))) O (JLo (.dptr [BL c.Deck,G0 c.Tiers,G0 c.Height,G0 c.Kilos20,G0 c.Kilos40,G0 c.Lash,E0 c.Plugs,G0 c.X,G0 c.Y,G0 c.Z]) [] O .sct G (fun hc=>Gd Rf O O O) O (JLo (BL c.Deck) [17] O .sct ⟨Ua,G⟩ (fun hc=>Gj Jw O O O) O ?_)))))))))))))
 refine JLo (BL p3) [] O .sct G (fun hc=>Gj Jw O O O) O (JLo (BL (c.Deck==p3)) [18,19] O .sct ⟨Ua,Ua,G⟩ (fun hc=>Hb8 Gbd O O O) O (JLh (BL (((decide (c.Bay=p1))&&(decide (c.Row=p2)))&&(c.Deck==p3))) (Q1 O O O O) O (Rt (BL (((decide (c.Bay=p1))&&(decide (c.Row=p2)))&&(c.Deck==p3))) O (G7 (hK2 (Gw (fin1 BL h)))))))

def Ga4 (s:Gr) (bay:Int) (row:Int) (deck:Bool):Option (Int×Bool):=
 bnd (Qg s.Columns (fun z0=>G98 z0 bay row deck)) fun r3=>
 bif decide ((r3.length:Int)=0) then
 (some (0,false))
 else
 (Y9 r3 0 fun y8=>
  some (y8,true))
theorem M_ship_Find_w (s:Gr) (bay:Int) (row:Int) (deck:Bool) (r:Int×Bool) (h:Ga4 s bay row deck=some r):Pure Ek 50 [.agg (Gr.cs s),G0 bay,G0 row,BL deck] (·=.tup [G0 r.1,BL r.2]):=by
 unfold Ga4 at h
 refine H7 [.tmp 8,.tmp 9] Tryz.func50 O O (Jr fun hK1=>(JLh (.ptr 1098 0) (Q9 (cs:=(Gr.cs s)) 1098 O O O O O) O (JLh (.ptr 1099 0) (Q9 (cs:=[G0 bay]) 1099 O O O O O) O (JLh (.ptr 1100 0) (Q9 (cs:=[G0 row]) 1100 O O O O O) O (JLh (.ptr 1101 0) (Q9 (cs:=[BL deck]) 1101 O O O O O) O (Rt (G0 0) O (Rt (BL false) O (G7 (hK1 ?_)))))))))
 refine Gt [(4,Ec s),(5,.ptr 1099 0),(6,.ptr 1100 0),(7,.ptr 1101 0)] [(1099,.box 3 [G0 bay]),(1100,.box 3 [G0 row]),(1101,.box 4 [BL deck])] 1098 rfl rfl rfl ⟨⟨_,rfl,.boxEq rfl rfl⟩,⟨_,rfl,.boxEq rfl rfl⟩,⟨_,rfl,.boxEq rfl rfl⟩,G⟩ rfl (by repeat' (first | exact .ptr | constructor)) ?_
 refine Gt [(4,Ec s),(5,.dptr [G0 bay]),(6,.ptr 1100 0),(7,.ptr 1101 0)] [(1100,.box 3 [G0 row]),(1101,.box 4 [BL deck])] 1099 rfl rfl rfl ⟨⟨_,rfl,.boxEq rfl rfl⟩,⟨_,rfl,.boxEq rfl rfl⟩,G⟩ rfl (by repeat' (first | exact .ptr | constructor)) ?_
 refine Gt [(4,Ec s),(5,.dptr [G0 bay]),(6,.dptr [G0 row]),(7,.ptr 1101 0)] [(1101,.box 4 [BL deck])] 1100 rfl rfl rfl ⟨⟨_,rfl,.boxEq rfl rfl⟩,G⟩ rfl (by repeat' (first | exact .ptr | constructor)) ?_
 refine Gt [(4,Ec s),(5,.dptr [G0 bay]),(6,.dptr [G0 row]),(7,.dptr [BL deck])] [] 1101 rfl rfl rfl G rfl (by repeat' (first | exact .ptr | constructor)) ?_
 refine Jr fun hK2=>(JLh (Ec s) (Gd Ho O O O) O (JLh (E7 s.Columns) (Gj J1 O O O) O (JLh (.fn 78 [.dptr [G0 bay],.dptr [G0 row],.dptr [BL deck]]) (Zj (cs:=[.dptr [G0 bay],.dptr [G0 row],.dptr [BL deck]]) O O) O ?_)))
 obtain⟨r3,hr3,h⟩:=Gf h
 refine JLh (E0 r3) (Gu O (G4d s.Columns (fun z0=>G98 z0 bay row deck) 78 [.dptr [G0 bay],.dptr [G0 row],.dptr [BL deck]] Jbf O (fun z0 q hq=>J02 z0 bay row deck q hq) r3 hr3) J27 ⟨O,O,O,O,G⟩) O (Rt (E0 r3) O (G7 (hK2 (Js fun hK4=>Jr fun hK5=>(Rt (E0 r3) O (JLl Gq O O O fun hm16=>(JLh (BL (decide ((r3.length:Int)=0))) (Jf O O O) O (G7 (hK5 (JCc O h (fun h hb=>?_) (fun h hb=>?_)))))))))))
 ·
  refine Jr fun hK6=>(Rt (G0 0) O (Rt (BL false) O (G7 (hK6 (Gw (⟨[G0 0,BL false],[],G,O,⟨⟨_,O,.conv (.same O)⟩,⟨_,O,.conv (.same O)⟩,G⟩,O,congrArg (fun r:Int×Bool=>(.tup [G0 r.1,BL r.2]:AV)) (Option.some.inj h)⟩))))))
 ·
  refine Gs (hK4 (Jr fun hK7=>(Rt (E0 r3) O ?_)))
  obtain⟨m9,y8,hm9,hy8,h⟩:=R3 h
  refine JLh (.dptr [G0 y8]) (Ha (f:=G0) (xs:=r3) (y:=y8) O O O Gq hy8 hm9) O (JLh (G0 y8) (Gj Gg O O O) O (Rt (G0 y8) O (Rt (BL true) O (G7 (hK7 (Gw (⟨[G0 y8,BL true],[],G,O,⟨⟨_,O,.conv (.same O)⟩,⟨_,O,.conv (.same O)⟩,G⟩,O,congrArg (fun r:Int×Bool=>(.tup [G0 r.1,BL r.2]:AV)) (Option.some.inj h)⟩)))))))

def Ry (l:List Gy) (covers:Int):Option Gr:=
 bnd (Gfc (min (l.length:Int) 12) l.length) fun m5=>
 each (fun y106 i106 (s106:(List G9)×Int×Int×Int×Int×(List Row)×(List Frame)×(List Gp)×Int×Int×Int×Int×(List G3)) nx106=>
  jp (fun kj109=>
   G1c (y106.Bay) fun v112=>
   bnd (Gcc v112 5) fun v113=>
   G1c (y106.Row) fun v114=>
   bnd (Gcc v114 5) fun v115=>
   G1c (y106.Tiers) fun v116=>
   bnd (Gcc v116 4) fun v117=>
   G1c (2+v117) fun v118=>
   G1c (13000*v113) fun v120=>
   G1c (v120 - 26000) fun v121=>
   G1c (2500*v115) fun v122=>
   G1c (v122 - 5000) fun v123=>
   jp (fun kj124=>
    bif y106.Deck then
    (kj124 20000)
    else
    (kj124 2000)) fun(j124:Int)=>
   bnd (Ga4 (Gr.mk s106.2.2.2.2.2.2.2.2.2.2.2.2 s106.1 (Light.mk s106.2.1 s106.2.2.1 s106.2.2.2.1 s106.2.2.2.2.1) s106.2.2.2.2.2.1 s106.2.2.2.2.2.2.1 s106.2.2.2.2.2.2.2.1 (G2.mk s106.2.2.2.2.2.2.2.2.1 s106.2.2.2.2.2.2.2.2.2.1 s106.2.2.2.2.2.2.2.2.2.2.1 s106.2.2.2.2.2.2.2.2.2.2.2.1)) v113 v115 y106.Deck) fun r127=>
   bif (!r127.2) then
   (need (decide ((s106.2.2.2.2.2.2.2.2.2.2.2.2.length+[(G3.mk v113 v115 y106.Deck v118 0 500000000 500000000 0 [] v121 v123 j124)].length)*112≤140737488355328∧s106.2.2.2.2.2.2.2.2.2.2.2.2.length+[(G3.mk v113 v115 y106.Deck v118 0 500000000 500000000 0 [] v121 v123 j124)].length≤maxLen)) <|
    kj109 (s106.2.2.2.2.2.2.2.2.2.2.2.2++[(G3.mk v113 v115 y106.Deck v118 0 500000000 500000000 0 [] v121 v123 j124)]))
   else
   (kj109 s106.2.2.2.2.2.2.2.2.2.2.2.2)) fun(j109:(List G3))=>
  nx106 (s106.1,s106.2.1,s106.2.2.1,s106.2.2.2.1,s106.2.2.2.2.1,s106.2.2.2.2.2.1,s106.2.2.2.2.2.2.1,s106.2.2.2.2.2.2.2.1,s106.2.2.2.2.2.2.2.2.1,s106.2.2.2.2.2.2.2.2.2.1,s106.2.2.2.2.2.2.2.2.2.2.1,s106.2.2.2.2.2.2.2.2.2.2.2.1,j109))
 (fun(s106:(List G9)×Int×Int×Int×Int×(List Row)×(List Frame)×(List Gp)×Int×Int×Int×Int×(List G3))=>
  jp (fun kj130=>
   bif decide ((s106.2.2.2.2.2.2.2.2.2.2.2.2.length:Int)=0) then
   (kj130 ([(G3.mk 0 0 false 3 0 500000000 500000000 0 [] 0 0 2000)]))
   else
   (kj130 s106.2.2.2.2.2.2.2.2.2.2.2.2)) fun(j130:(List G3))=>
  need (decide (5≤9223372036854775807)) <|
  upto (fun i200 (s200:(List G9)×Int×Int×Int×Int×(List Row)×(List Frame)×(List Gp)×Int×Int×Int×Int) nx200=>
   jp (fun kj203=>
    jp (fun kj204=>
     G1c (2*(i200:Int)) fun v206=>
     bnd (Gfc v206 4294967295) fun m207=>
     bif decide ((H20 .u32 (G82 .u32 covers m207) 1)=1) then
     (need (decide ((s200.1.length+[(G9.mk (i200:Int) [0,1])].length)*32≤140737488355328∧s200.1.length+[(G9.mk (i200:Int) [0,1])].length≤maxLen)) <|
      kj204 (s200.1++[(G9.mk (i200:Int) [0,1])]))
     else
     (kj204 s200.1)) fun(j204:(List G9))=>
    G1c (2*(i200:Int)) fun v210=>
    G1c (v210+1) fun v211=>
    bnd (Gfc v211 4294967295) fun m212=>
    bif decide ((H20 .u32 (G82 .u32 covers m212) 1)=1) then
    (need (decide ((j204.length+[(G9.mk (i200:Int) [2,3,4])].length)*32≤140737488355328∧j204.length+[(G9.mk (i200:Int) [2,3,4])].length≤maxLen)) <|
     kj203 (j204++[(G9.mk (i200:Int) [2,3,4])]))
    else
    (kj203 j204)) fun(j203:(List G9))=>
   nx200 (j203,s200.2.1,s200.2.2.1,s200.2.2.2.1,s200.2.2.2.2.1,s200.2.2.2.2.2.1,s200.2.2.2.2.2.2.1,s200.2.2.2.2.2.2.2.1,s200.2.2.2.2.2.2.2.2.1,s200.2.2.2.2.2.2.2.2.2.1,s200.2.2.2.2.2.2.2.2.2.2.1,s200.2.2.2.2.2.2.2.2.2.2.2))
  (fun(s200:(List G9)×Int×Int×Int×Int×(List Row)×(List Frame)×(List Gp)×Int×Int×Int×Int)=>
   some (Gr.mk j130 s200.1 (Light.mk s200.2.1 s200.2.2.1 s200.2.2.2.1 s200.2.2.2.2.1) s200.2.2.2.2.2.1 s200.2.2.2.2.2.2.1 s200.2.2.2.2.2.2.2.1 (G2.mk s200.2.2.2.2.2.2.2.2.1 s200.2.2.2.2.2.2.2.2.2.1 s200.2.2.2.2.2.2.2.2.2.2.1 s200.2.2.2.2.2.2.2.2.2.2.2))) (5:Int).toNat 0 (s106.1,s106.2.1,s106.2.2.1,s106.2.2.2.1,s106.2.2.2.2.1,s106.2.2.2.2.2.1,s106.2.2.2.2.2.2.1,s106.2.2.2.2.2.2.2.1,s106.2.2.2.2.2.2.2.2.1,s106.2.2.2.2.2.2.2.2.2.1,s106.2.2.2.2.2.2.2.2.2.2.1,s106.2.2.2.2.2.2.2.2.2.2.2.1)) (l.take m5) 0 ([],0,0,0,0,[],[],[],0,0,0,0,[])
theorem Gf5 (l:List Gy) (covers:Int) (r:Gr) (h:Ry l covers=some r):Qp Ek 22 [Eb l,.sc (.int .u32 covers)] [] (fun av L'=>∃ p:Nat,av=.agg [.vec 1060 p 12 r.Columns.length,E3 r.Covers,G0 r.Light.Kilos,G0 r.Light.X,G0 r.Light.Y,G0 r.Light.Z,E4 r.Rows,E5 r.Frames,E6 r.Tanks,G0 r.G2.Tolerance,G0 r.G2.Trim,G0 r.G2.List_,G0 r.G2.Stability]∧L'=[(1060,.vec 55 12 p (r.Columns.map G3.av))]):=by
 unfold Ry at h
 refine G04 [] [.cell 4 36] Tryz.func22 O O (H6a O) (Jr fun hK1=>(JLh (.ptr 1056 0) (Gdb 1056 [E7 ([]:List G3),E3 ([]:List G9),G0 0,G0 0,G0 0,G0 0,E4 ([]:List Row),E5 ([]:List Frame),E6 ([]:List Gp),G0 0,G0 0,G0 0,G0 0] [.slice none 0 0,.slice none 0 0,.int .i64 0,.int .i64 0,.int .i64 0,.int .i64 0,.slice none 0 0,.slice none 0 0,.slice none 0 0,.int .i64 0,.int .i64 0,.int .i64 0,.int .i64 0] Gc4 ⟨.inr ⟨_,O,O⟩,.inr ⟨_,O,O⟩,.inl O,.inl O,.inl O,.inl O,.inr ⟨_,O,O⟩,.inr ⟨_,O,O⟩,.inr ⟨_,O,O⟩,.inl O,.inl O,.inl O,.inl O,G⟩ O O) O (G7 (hK1 ?_))))
 refine Jr fun hK2=>(JLh (.ptr 1057 0) (Gdb 1057 [.sc (.slice none 0 0),.sc (.slice none 0 0),G0 0,G0 0,G0 0,G0 0,E4 ([]:List Row),E5 ([]:List Frame),E6 ([]:List Gp),G0 0,G0 0,G0 0,G0 0] [.slice none 0 0,.slice none 0 0,.int .i64 0,.int .i64 0,.int .i64 0,.int .i64 0,.slice none 0 0,.slice none 0 0,.slice none 0 0,.int .i64 0,.int .i64 0,.int .i64 0,.int .i64 0] Gc4 ⟨.inl O,.inl O,.inl O,.inl O,.inl O,.inl O,.inr ⟨_,O,O⟩,.inr ⟨_,O,O⟩,.inr ⟨_,O,O⟩,.inl O,.inl O,.inl O,.inl O,G⟩ O O) O ?_)
 refine Jdd 1057 0 1060 55 12 O O O (cs':=[.vec 1060 (([]:List G3).length) 12 (([]:List G3).length),.sc (.slice none 0 0),G0 0,G0 0,G0 0,G0 0,E4 ([]:List Row),E5 ([]:List Frame),E6 ([]:List Gp),G0 0,G0 0,G0 0,G0 0]) O (J6d 1057 1 1061 70 2 O O O (cs':=[.vec 1060 (([]:List G3).length) 12 (([]:List G3).length),OW 1061 2 G9.av ([]:List G9),G0 0,G0 0,G0 0,G0 0,E4 ([]:List Row),E5 ([]:List Frame),E6 ([]:List Gp),G0 0,G0 0,G0 0,G0 0]) O (G7 (hK2 (Js fun hK3=>Jr fun hK4=>(Rt (Eb l) O (Rt (Eb l) O (JLl Ge1 O O O fun hm14=>(JLh (G0 (min (l.length:Int) 12)) (J83 O O O) O ?_))))))))
 obtain⟨m5,hm5,h⟩:=Gf h
 refine JLh (Eb (l.take m5)) (H24 (f:=Gy.av) (xs:=l) O O O Ge1 (G41 hm5)) O (JLl Ge1 O O O fun hm17=>(Rt (G0 0) O (G7 (hK4 (H1 ?_)))))
 obtain⟨b106,kx106,hb106,hkx106,h⟩:=Jj h
 refine J3 (fun i106 (s106:(List G9)×Int×Int×Int×Int×(List Row)×(List Frame)×(List Gp)×Int×Int×Int×Int×(List G3))=>each b106 kx106 (List.drop i106 (l.take m5)) i106 s106=some r) (fun i106 s106=>[(1,.sc (.int .u32 covers)),(4,.ptr 1056 0),(5,.ptr 1057 0),(16,Eb (l.take m5)),(17,G0 ((l.take m5).length:Int)),(18,Ej i106)]) (fun i106 s106=>[(1060,.vec 55 12 s106.2.2.2.2.2.2.2.2.2.2.2.2.length (s106.2.2.2.2.2.2.2.2.2.2.2.2.map G3.av)),(1061,.spare 70 2 s106.1.length s106.1.length),(1056,.box 36 [E7 ([]:List G3),E3 ([]:List G9),G0 0,G0 0,G0 0,G0 0,E4 ([]:List Row),E5 ([]:List Frame),E6 ([]:List Gp),G0 0,G0 0,G0 0,G0 0]),(1057,.box 36 [.vec 1060 s106.2.2.2.2.2.2.2.2.2.2.2.2.length 12 s106.2.2.2.2.2.2.2.2.2.2.2.2.length,OW 1061 2 G9.av s106.1,G0 s106.2.1,G0 s106.2.2.1,G0 s106.2.2.2.1,G0 s106.2.2.2.2.1,E4 s106.2.2.2.2.2.1,E5 s106.2.2.2.2.2.2.1,E6 s106.2.2.2.2.2.2.2.1,G0 s106.2.2.2.2.2.2.2.2.1,G0 s106.2.2.2.2.2.2.2.2.2.1,G0 s106.2.2.2.2.2.2.2.2.2.2.1,G0 s106.2.2.2.2.2.2.2.2.2.2.2.1])]) (fun i106=>(l.take m5).length - i106) 0 ([],0,0,0,0,[],[],[],0,0,0,0,[]) h ⟨(by repeat' constructor),⟨⟨_,rfl,.vec⟩,⟨_,rfl,.same⟩,⟨_,rfl,.boxL rfl (by repeat' constructor)⟩,⟨_,rfl,.boxL rfl (by repeat' constructor)⟩,G⟩,rfl⟩ ?_
 clear h
 intro i106 s106 hi106 K106 e106
 refine Jr fun hK107=>(JLh (BL (decide ((i106:Int) < ((l.take m5).length:Int)))) (Q0 O O O) O (G7 (hK107 (Js fun hK108=>Gn O (fun hb=>?_) (fun hb=>?_)))))
 ·
  have hk106:=Qd hb
  obtain⟨y106,nx106,hy106,hn106,h⟩:=J4 hi106 hk106
  replace h:=Zz hb106 h
  refine Gs (hK108 ?_)
  obtain⟨kj109,hkj109,h⟩:=Yo h
  refine R9 (fun j109:(List G3)=>kj109 j109=some r) (fun j109=>[(1,.sc (.int .u32 covers)),(4,.ptr 1056 0),(5,.ptr 1057 0),(16,Eb (l.take m5)),(17,G0 ((l.take m5).length:Int)),(18,Ej i106)]) (fun j109=>[(1060,.vec 55 12 j109.length (j109.map G3.av)),(1061,.spare 70 2 s106.1.length s106.1.length),(1056,.box 36 [E7 ([]:List G3),E3 ([]:List G9),G0 0,G0 0,G0 0,G0 0,E4 ([]:List Row),E5 ([]:List Frame),E6 ([]:List Gp),G0 0,G0 0,G0 0,G0 0]),(1057,.box 36 [.vec 1060 j109.length 12 j109.length,OW 1061 2 G9.av s106.1,G0 s106.2.1,G0 s106.2.2.1,G0 s106.2.2.2.1,G0 s106.2.2.2.2.1,E4 s106.2.2.2.2.2.1,E5 s106.2.2.2.2.2.2.1,E6 s106.2.2.2.2.2.2.2.1,G0 s106.2.2.2.2.2.2.2.2.1,G0 s106.2.2.2.2.2.2.2.2.2.1,G0 s106.2.2.2.2.2.2.2.2.2.2.1,G0 s106.2.2.2.2.2.2.2.2.2.2.2.1])]) (fun Kj109 ej109=>?_) ?_
  ·
   refine H1 (Jr fun hK110=>(JLh (.dptr (Gy.cs y106)) (Ha (f:=Gy.av) (xs:=(l.take m5)) (y:=y106) O O O Ge1 hy106 O) O (JLh (.agg (Gy.cs y106)) (Gh Jdb O O O) O (JLh (.ptr 1058 0) (Ht 1058 4 J85 O O) O (Hu (u:=.junk) (Hj (u:=.agg (Gy.cs y106)) (ds:=[U8 y106.Bay,U8 y106.Row,U8 y106.Tiers,BL y106.Deck]) J95 O O O O O O O O) (G7 (hK110 ?_)))))))
   refine Gt [(1,.sc (.int .u32 covers)),(4,.ptr 1056 0),(5,.ptr 1057 0),(7,.dptr (Gy.cs y106)),(16,Eb (l.take m5)),(17,G0 ((l.take m5).length:Int)),(18,Ej i106)] [(1060,.vec 55 12 s106.2.2.2.2.2.2.2.2.2.2.2.2.length (s106.2.2.2.2.2.2.2.2.2.2.2.2.map G3.av)),(1061,.spare 70 2 s106.1.length s106.1.length),(1056,.box 36 [E7 ([]:List G3),E3 ([]:List G9),G0 0,G0 0,G0 0,G0 0,E4 ([]:List Row),E5 ([]:List Frame),E6 ([]:List Gp),G0 0,G0 0,G0 0,G0 0]),(1057,.box 36 [.vec 1060 s106.2.2.2.2.2.2.2.2.2.2.2.2.length 12 s106.2.2.2.2.2.2.2.2.2.2.2.2.length,OW 1061 2 G9.av s106.1,G0 s106.2.1,G0 s106.2.2.1,G0 s106.2.2.2.1,G0 s106.2.2.2.2.1,E4 s106.2.2.2.2.2.1,E5 s106.2.2.2.2.2.2.1,E6 s106.2.2.2.2.2.2.2.1,G0 s106.2.2.2.2.2.2.2.2.1,G0 s106.2.2.2.2.2.2.2.2.2.1,G0 s106.2.2.2.2.2.2.2.2.2.2.1,G0 s106.2.2.2.2.2.2.2.2.2.2.2.1])] 1058 rfl rfl rfl ⟨⟨_,rfl,.vec⟩,⟨_,rfl,.same⟩,⟨_,rfl,.boxEq rfl rfl⟩,⟨_,rfl,.boxEq rfl rfl⟩,G⟩ rfl (by repeat' (first | exact .ptr | constructor)) ?_
   refine Jr fun hK111=>(JLh (.dptr (Gy.cs y106)) (Gd J21 O O O) O (JLh (U8 y106.Bay) (Gj Hy O O O) O ?_))
   obtain⟨v112,hv112,h⟩:=Jg h
   refine JLh (G0 v112) (G90 G08 G31 hv112 O O) O ?_
   obtain⟨v113,hv113,h⟩:=Gf h
   refine JLh (G0 v113) (Gec (Jt hv113).1 (Jt hv113).2 O O O) O (JLh (.dptr ((Gy.cs y106).drop 1)) (Gd J20 O O O) O (JLh (U8 y106.Row) (Gj Hy O O O) O ?_))
   obtain⟨v114,hv114,h⟩:=Jg h
   refine JLh (G0 v114) (G90 G08 G31 hv114 O O) O ?_
   obtain⟨v115,hv115,h⟩:=Gf h
   refine JLh (G0 v115) (Gec (Jt hv115).1 (Jt hv115).2 O O O) O (JLh (.dptr [BL y106.Deck]) (Gd J1e O O O) O (JLh (BL y106.Deck) (Gj Jw O O O) O (JLh (.dptr [U8 y106.Tiers,BL y106.Deck]) (Gd J1f O O O) O (JLh (U8 y106.Tiers) (Gj Hy O O O) O ?_))))
   obtain⟨v116,hv116,h⟩:=Jg h
   refine JLh (G0 v116) (G90 G08 G31 hv116 O O) O ?_
   obtain⟨v117,hv117,h⟩:=Gf h
   refine JLh (G0 v117) (Gec (Jt hv117).1 (Jt hv117).2 O O O) O ?_
   obtain⟨v118,hv118,h⟩:=Jg h
   refine JLh (G0 v118) (J0 hv118 O O O) O (JLh (.agg [G0 v113,G0 v115,BL y106.Deck,G0 v118,G0 0,G0 500000000,G0 500000000,G0 0,E0 ([]:List Int),G0 0,G0 0,G0 0]) (Hg (cs:=[G0 v113,G0 v115,BL y106.Deck,G0 v118,G0 0,G0 500000000,G0 500000000,G0 0,E0 ([]:List Int),G0 0,G0 0,G0 0]) [(0,1),(1,1),(2,1),(3,1),(4,1),(5,1),(6,1),(7,1),(8,1),(9,1),(10,1),(11,1)] [G0 0,G0 0,BL false,G0 0,G0 0,G0 0,G0 0,G0 0,E0 ([]:List Int),G0 0,G0 0,G0 0] [.int .i64 0,.int .i64 0,.bool false,.int .i64 0,.int .i64 0,.int .i64 0,.int .i64 0,.int .i64 0,.slice none 0 0,.int .i64 0,.int .i64 0,.int .i64 0] G14 G5d ⟨.inl O,.inl O,.inl O,.inl O,.inl O,.inl O,.inl O,.inl O,.inr ⟨_,O,O⟩,.inl O,.inl O,.inl O,G⟩ O O) O (JLh (.ptr 1059 0) (Ht 1059 12 Z2 O O) O (Hu (u:=.junk) (Hj (u:=.agg [G0 v113,G0 v115,BL y106.Deck,G0 v118,G0 0,G0 500000000,G0 500000000,G0 0,E0 ([]:List Int),G0 0,G0 0,G0 0]) (ds:=[G0 v113,G0 v115,BL y106.Deck,G0 v118,G0 0,G0 500000000,G0 500000000,G0 0,E0 ([]:List Int),G0 0,G0 0,G0 0]) G5f O O O O O O O O) (G7 (hK111 ?_)))))
   refine Jr fun hK119=>(JLh (.ptr 1059 0) (Q8 Zw O O) O (JLh (G0 v113) (Yi Gg O O O O) O ?_))
   obtain⟨v120,hv120,h⟩:=Jg h
   refine JLh (G0 v120) (Hf9 hv120 O O O) O ?_
   obtain⟨v121,hv121,h⟩:=Jg h
   refine JLh (G0 v121) (H06 hv121 O O O) O (JLh (.ptr 1059 1) (Q8 Zv O O) O (JLh (G0 v115) (Yi Gg O O O O) O ?_))
   obtain⟨v122,hv122,h⟩:=Jg h
   refine JLh (G0 v122) (Hf9 hv122 O O O) O ?_
   obtain⟨v123,hv123,h⟩:=Jg h
   refine JLh (G0 v123) (H06 hv123 O O O) O (JLh (.ptr 1059 9) (Q8 H67 O O) O (Hu (u:=.junk) (Hj (u:=G0 v121) (ds:=[G0 v113,G0 v115,BL y106.Deck,G0 v118,G0 0,G0 500000000,G0 500000000,G0 0,E0 ([]:List Int),G0 v121,G0 0,G0 0]) G3f O O O O O O O O) (JLh (.ptr 1059 10) (Q8 H2f O O) O (Hu (u:=.junk) (Hj (u:=G0 v123) (ds:=[G0 v113,G0 v115,BL y106.Deck,G0 v118,G0 0,G0 500000000,G0 500000000,G0 0,E0 ([]:List Int),G0 v121,G0 v123,G0 0]) G3f O O O O O O O O) (JLh (.ptr 1059 11) (Q8 Gc5 O O) O (Hu (u:=.junk) (Hj (u:=G0 2000) (ds:=[G0 v113,G0 v115,BL y106.Deck,G0 v118,G0 0,G0 500000000,G0 500000000,G0 0,E0 ([]:List Int),G0 v121,G0 v123,G0 2000]) G3f O O O O O O O O) (G7 (hK119 ?_))))))))
   obtain⟨kj124,hkj124,h⟩:=Yo h
   refine R9 (fun j124:Int=>kj124 j124=some r) (fun j124=>[(1,.sc (.int .u32 covers)),(4,.ptr 1056 0),(5,.ptr 1057 0),(8,.ptr 1059 0),(16,Eb (l.take m5)),(17,G0 ((l.take m5).length:Int)),(18,Ej i106)]) (fun j124=>[(1060,.vec 55 12 s106.2.2.2.2.2.2.2.2.2.2.2.2.length (s106.2.2.2.2.2.2.2.2.2.2.2.2.map G3.av)),(1061,.spare 70 2 s106.1.length s106.1.length),(1056,.box 36 [E7 ([]:List G3),E3 ([]:List G9),G0 0,G0 0,G0 0,G0 0,E4 ([]:List Row),E5 ([]:List Frame),E6 ([]:List Gp),G0 0,G0 0,G0 0,G0 0]),(1057,.box 36 [.vec 1060 s106.2.2.2.2.2.2.2.2.2.2.2.2.length 12 s106.2.2.2.2.2.2.2.2.2.2.2.2.length,OW 1061 2 G9.av s106.1,G0 s106.2.1,G0 s106.2.2.1,G0 s106.2.2.2.1,G0 s106.2.2.2.2.1,E4 s106.2.2.2.2.2.1,E5 s106.2.2.2.2.2.2.1,E6 s106.2.2.2.2.2.2.2.1,G0 s106.2.2.2.2.2.2.2.2.1,G0 s106.2.2.2.2.2.2.2.2.2.1,G0 s106.2.2.2.2.2.2.2.2.2.2.1,G0 s106.2.2.2.2.2.2.2.2.2.2.2.1]),(1059,.box 55 [G0 v113,G0 v115,BL y106.Deck,G0 v118,G0 0,G0 500000000,G0 500000000,G0 0,E0 ([]:List Int),G0 v121,G0 v123,G0 j124])]) (fun Kj124 ej124=>?_) ?_
   ·
    refine Jr fun hK125=>(JLh (.ptr 1059 2) (Q8 Rf O O) O (JLh (BL y106.Deck) (Yi Jw O O O O) O (G7 (hK125 (JCc O h (fun h hb=>?_) (fun h hb=>?_))))))
    ·
     refine G4 (JLh (.ptr 1059 11) (Q8 Gc5 O O) O (Hu (u:=.junk) (Hj (u:=G0 20000) (ds:=[G0 v113,G0 v115,BL y106.Deck,G0 v118,G0 0,G0 500000000,G0 500000000,G0 0,E0 ([]:List Int),G0 v121,G0 v123,G0 20000]) G3f O O O O O O O O) (G7 (ej124 _ _ 20000 h ⟨(by repeat' constructor),⟨⟨_,rfl,.vec⟩,⟨_,rfl,.same⟩,⟨_,rfl,.boxL rfl (by repeat' constructor)⟩,⟨_,rfl,.boxL rfl (by repeat' constructor)⟩,⟨_,rfl,.boxL rfl (by repeat' constructor)⟩,G⟩,rfl⟩))))
    ·
     refine Gs (ej124 _ _ 2000 h ⟨(by repeat' constructor),⟨⟨_,rfl,.vec⟩,⟨_,rfl,.same⟩,⟨_,rfl,.boxL rfl (by repeat' constructor)⟩,⟨_,rfl,.boxL rfl (by repeat' constructor)⟩,⟨_,rfl,.boxL rfl (by repeat' constructor)⟩,G⟩,rfl⟩)
   ·intro j124 h
    replace h:=app1 hkj124 h
    refine Jr fun hK126=>(JLh (.agg [.vec 1060 s106.2.2.2.2.2.2.2.2.2.2.2.2.length 12 s106.2.2.2.2.2.2.2.2.2.2.2.2.length,OW 1061 2 G9.av s106.1,G0 s106.2.1,G0 s106.2.2.1,G0 s106.2.2.2.1,G0 s106.2.2.2.2.1,E4 s106.2.2.2.2.2.1,E5 s106.2.2.2.2.2.2.1,E6 s106.2.2.2.2.2.2.2.1,G0 s106.2.2.2.2.2.2.2.2.1,G0 s106.2.2.2.2.2.2.2.2.2.1,G0 s106.2.2.2.2.2.2.2.2.2.2.1,G0 s106.2.2.2.2.2.2.2.2.2.2.2.1]) (G8f H3 O O O O) O (JLh (.ptr 1059 0) (Q8 Zw O O) O (JLh (G0 v113) (Yi Gg O O O O) O (JLh (.ptr 1059 1) (Q8 Zv O O) O (JLh (G0 v115) (Yi Gg O O O O) O (JLh (.ptr 1059 2) (Q8 Rf O O) O (JLh (BL y106.Deck) (Yi Jw O O O O) O ?_)))))))
    obtain⟨r127,hr127,h⟩:=Gf h
    refine JLh (.tup [G0 r127.1,BL r127.2]) (Je7 (args:=[.agg [E7 s106.2.2.2.2.2.2.2.2.2.2.2.2,E3 s106.1,G0 s106.2.1,G0 s106.2.2.1,G0 s106.2.2.2.1,G0 s106.2.2.2.2.1,E4 s106.2.2.2.2.2.1,E5 s106.2.2.2.2.2.2.1,E6 s106.2.2.2.2.2.2.2.1,G0 s106.2.2.2.2.2.2.2.2.1,G0 s106.2.2.2.2.2.2.2.2.2.1,G0 s106.2.2.2.2.2.2.2.2.2.2.1,G0 s106.2.2.2.2.2.2.2.2.2.2.2.1],G0 v113,G0 v115,BL y106.Deck]) O (M_ship_Find_w (Gr.mk s106.2.2.2.2.2.2.2.2.2.2.2.2 s106.1 (Light.mk s106.2.1 s106.2.2.1 s106.2.2.2.1 s106.2.2.2.2.1) s106.2.2.2.2.2.1 s106.2.2.2.2.2.2.1 s106.2.2.2.2.2.2.2.1 (G2.mk s106.2.2.2.2.2.2.2.2.1 s106.2.2.2.2.2.2.2.2.2.1 s106.2.2.2.2.2.2.2.2.2.2.1 s106.2.2.2.2.2.2.2.2.2.2.2.1)) v113 v115 y106.Deck r127 hr127) Jcd ⟨.aggL (cs:=[.vec 1060 s106.2.2.2.2.2.2.2.2.2.2.2.2.length 12 s106.2.2.2.2.2.2.2.2.2.2.2.2.length,OW 1061 2 G9.av s106.1,G0 s106.2.1,G0 s106.2.2.1,G0 s106.2.2.2.1,G0 s106.2.2.2.2.1,E4 s106.2.2.2.2.2.1,E5 s106.2.2.2.2.2.2.1,E6 s106.2.2.2.2.2.2.2.1,G0 s106.2.2.2.2.2.2.2.2.1,G0 s106.2.2.2.2.2.2.2.2.2.1,G0 s106.2.2.2.2.2.2.2.2.2.2.1,G0 s106.2.2.2.2.2.2.2.2.2.2.2.1]) (ds:=[E7 s106.2.2.2.2.2.2.2.2.2.2.2.2,E3 s106.1,G0 s106.2.1,G0 s106.2.2.1,G0 s106.2.2.2.1,G0 s106.2.2.2.2.1,E4 s106.2.2.2.2.2.1,E5 s106.2.2.2.2.2.2.1,E6 s106.2.2.2.2.2.2.2.1,G0 s106.2.2.2.2.2.2.2.2.1,G0 s106.2.2.2.2.2.2.2.2.2.1,G0 s106.2.2.2.2.2.2.2.2.2.2.1,G0 s106.2.2.2.2.2.2.2.2.2.2.2.1]) ⟨.vec O,.data O O,.data O O,.data O O,.data O O,.data O O,.data O O,.data O O,.data O O,.data O O,.data O O,.data O O,.data O O,G⟩,.data O O,.data O O,.data O O,G⟩ O) O (Rt (.tup [G0 r127.1,BL r127.2]) O (JLh (G0 r127.1) (Gv O O O) O (JLh (BL r127.2) (Gv O O O) O (Rt (G0 r127.1) O (Rt (BL r127.2) O (G7 (hK126 ?_)))))))
    refine Gt [(1,.sc (.int .u32 covers)),(4,.ptr 1056 0),(5,.ptr 1057 0),(8,.dptr [G0 v113,G0 v115,BL y106.Deck,G0 v118,G0 0,G0 500000000,G0 500000000,G0 0,E0 ([]:List Int),G0 v121,G0 v123,G0 j124]),(10,BL r127.2),(16,Eb (l.take m5)),(17,G0 ((l.take m5).length:Int)),(18,Ej i106)] [(1060,.vec 55 12 s106.2.2.2.2.2.2.2.2.2.2.2.2.length (s106.2.2.2.2.2.2.2.2.2.2.2.2.map G3.av)),(1061,.spare 70 2 s106.1.length s106.1.length),(1056,.box 36 [E7 ([]:List G3),E3 ([]:List G9),G0 0,G0 0,G0 0,G0 0,E4 ([]:List Row),E5 ([]:List Frame),E6 ([]:List Gp),G0 0,G0 0,G0 0,G0 0]),(1057,.box 36 [.vec 1060 s106.2.2.2.2.2.2.2.2.2.2.2.2.length 12 s106.2.2.2.2.2.2.2.2.2.2.2.2.length,OW 1061 2 G9.av s106.1,G0 s106.2.1,G0 s106.2.2.1,G0 s106.2.2.2.1,G0 s106.2.2.2.2.1,E4 s106.2.2.2.2.2.1,E5 s106.2.2.2.2.2.2.1,E6 s106.2.2.2.2.2.2.2.1,G0 s106.2.2.2.2.2.2.2.2.1,G0 s106.2.2.2.2.2.2.2.2.2.1,G0 s106.2.2.2.2.2.2.2.2.2.2.1,G0 s106.2.2.2.2.2.2.2.2.2.2.2.1])] 1059 rfl rfl rfl ⟨⟨_,rfl,.vec⟩,⟨_,rfl,.same⟩,⟨_,rfl,.boxEq rfl rfl⟩,⟨_,rfl,.boxEq rfl rfl⟩,G⟩ rfl (by repeat' (first | exact .ptr | constructor)) ?_
    refine Jr fun hK128=>(Rt (BL r127.2) O (JLh (BL (!r127.2)) (Zs (b:=r127.2) O O) O (G7 (hK128 (JCc O h (fun h hb=>?_) (fun h hb=>?_))))))
    ·
     refine G4 (JLh (.ptr 1057 0) (Q8 Ho O O) O (JLh (.vec 1060 s106.2.2.2.2.2.2.2.2.2.2.2.2.length 12 s106.2.2.2.2.2.2.2.2.2.2.2.2.length) (Yi J1 O O O O) O (JLh (.agg [G0 v113,G0 v115,BL y106.Deck,G0 v118,G0 0,G0 500000000,G0 500000000,G0 0,E0 ([]:List Int),G0 v121,G0 v123,G0 j124]) (Gh Ys O O O) O (JLh (E7 ([(G3.mk v113 v115 y106.Deck v118 0 500000000 500000000 0 [] v121 v123 j124)])) (H5 (xs:=[.agg [G0 v113,G0 v115,BL y106.Deck,G0 v118,G0 0,G0 500000000,G0 500000000,G0 0,E0 ([]:List Int),G0 v121,G0 v123,G0 j124]]) O ⟨O,O,G⟩ Hs Z2 O O O O) O ?_))))
     obtain⟨ha129,h⟩:=Ja h
     refine JLh (.vec 1060 ((s106.2.2.2.2.2.2.2.2.2.2.2.2++[(G3.mk v113 v115 y106.Deck v118 0 500000000 500000000 0 [] v121 v123 j124)]).length) 12 ((s106.2.2.2.2.2.2.2.2.2.2.2.2++[(G3.mk v113 v115 y106.Deck v118 0 500000000 500000000 0 [] v121 v123 j124)]).length)) (G1b (f:=G3.av) (xs:=s106.2.2.2.2.2.2.2.2.2.2.2.2) (ys:=[(G3.mk v113 v115 y106.Deck v118 0 500000000 500000000 0 [] v121 v123 j124)]) (ver:=s106.2.2.2.2.2.2.2.2.2.2.2.2.length) (ver1:=(s106.2.2.2.2.2.2.2.2.2.2.2.2++[(G3.mk v113 v115 y106.Deck v118 0 500000000 500000000 0 [] v121 v123 j124)]).length) rfl rfl rfl rfl Hs Jb9 ha129 (fun _=>rfl) (.inl rfl) (by simp)) O (JLh (.ptr 1057 0) (Q8 Ho O O) O (Hu (u:=.junk) (Hj (u:=.vec 1060 ((s106.2.2.2.2.2.2.2.2.2.2.2.2++[(G3.mk v113 v115 y106.Deck v118 0 500000000 500000000 0 [] v121 v123 j124)]).length) 12 ((s106.2.2.2.2.2.2.2.2.2.2.2.2++[(G3.mk v113 v115 y106.Deck v118 0 500000000 500000000 0 [] v121 v123 j124)]).length)) (ds:=[.vec 1060 ((s106.2.2.2.2.2.2.2.2.2.2.2.2++[(G3.mk v113 v115 y106.Deck v118 0 500000000 500000000 0 [] v121 v123 j124)]).length) 12 ((s106.2.2.2.2.2.2.2.2.2.2.2.2++[(G3.mk v113 v115 y106.Deck v118 0 500000000 500000000 0 [] v121 v123 j124)]).length),OW 1061 2 G9.av s106.1,G0 s106.2.1,G0 s106.2.2.1,G0 s106.2.2.2.1,G0 s106.2.2.2.2.1,E4 s106.2.2.2.2.2.1,E5 s106.2.2.2.2.2.2.1,E6 s106.2.2.2.2.2.2.2.1,G0 s106.2.2.2.2.2.2.2.2.1,G0 s106.2.2.2.2.2.2.2.2.2.1,G0 s106.2.2.2.2.2.2.2.2.2.2.1,G0 s106.2.2.2.2.2.2.2.2.2.2.2.1]) J1a O O O O O O O O) (G7 ?_)))
     exact ej109 _ _ (s106.2.2.2.2.2.2.2.2.2.2.2.2++[(G3.mk v113 v115 y106.Deck v118 0 500000000 500000000 0 [] v121 v123 j124)]) h ⟨(by repeat' constructor),⟨⟨_,rfl,.vec⟩,⟨_,rfl,.same⟩,⟨_,rfl,.boxL rfl (by repeat' constructor)⟩,⟨_,rfl,.boxL rfl (by repeat' constructor)⟩,G⟩,rfl⟩
    ·
     refine Gs (ej109 _ _ s106.2.2.2.2.2.2.2.2.2.2.2.2 h ⟨(by repeat' constructor),⟨⟨_,rfl,.vec⟩,⟨_,rfl,.same⟩,⟨_,rfl,.boxL rfl (by repeat' constructor)⟩,⟨_,rfl,.boxL rfl (by repeat' constructor)⟩,G⟩,rfl⟩)
  ·intro j109 h
   replace h:=app1 hkj109 h
   refine G4 (JLh (G0 ((i106+1:Nat):Int)) (J0 (Hv hk106 hm17) O O O) O (Rt (G0 ((i106+1:Nat):Int)) O (G7 (e106 _ _ (i106+1) (s106.1,s106.2.1,s106.2.2.1,s106.2.2.2.1,s106.2.2.2.2.1,s106.2.2.2.2.2.1,s106.2.2.2.2.2.2.1,s106.2.2.2.2.2.2.2.1,s106.2.2.2.2.2.2.2.2.1,s106.2.2.2.2.2.2.2.2.2.1,s106.2.2.2.2.2.2.2.2.2.2.1,s106.2.2.2.2.2.2.2.2.2.2.2.1,j109) (app1 hn106 h) (by omega) ⟨(by repeat' constructor),⟨⟨_,rfl,.vec⟩,⟨_,rfl,.same⟩,⟨_,rfl,.boxL rfl (by repeat' constructor)⟩,⟨_,rfl,.boxL rfl (by repeat' constructor)⟩,G⟩,rfl⟩))))
 ·
  have h:=app1 hkx106 (J5 hi106 (Hi hb))
  refine J8 (hK3 ?_)
  obtain⟨kj130,hkj130,h⟩:=Yo h
  refine R9 (fun j130:(List G3)=>kj130 j130=some r) (fun j130=>[(1,.sc (.int .u32 covers)),(4,.ptr 1056 0),(5,.ptr 1057 0)]) (fun j130=>[(1060,.vec 55 12 j130.length (j130.map G3.av)),(1061,.spare 70 2 s106.1.length s106.1.length),(1056,.box 36 [E7 ([]:List G3),E3 ([]:List G9),G0 0,G0 0,G0 0,G0 0,E4 ([]:List Row),E5 ([]:List Frame),E6 ([]:List Gp),G0 0,G0 0,G0 0,G0 0]),(1057,.box 36 [.vec 1060 j130.length 12 j130.length,OW 1061 2 G9.av s106.1,G0 s106.2.1,G0 s106.2.2.1,G0 s106.2.2.2.1,G0 s106.2.2.2.2.1,E4 s106.2.2.2.2.2.1,E5 s106.2.2.2.2.2.2.1,E6 s106.2.2.2.2.2.2.2.1,G0 s106.2.2.2.2.2.2.2.2.1,G0 s106.2.2.2.2.2.2.2.2.2.1,G0 s106.2.2.2.2.2.2.2.2.2.2.1,G0 s106.2.2.2.2.2.2.2.2.2.2.2.1])]) (fun Kj130 ej130=>?_) ?_
  ·
   refine Jr fun hK131=>(JLh (.ptr 1057 0) (Q8 Ho O O) O (JLh (.vec 1060 s106.2.2.2.2.2.2.2.2.2.2.2.2.length 12 s106.2.2.2.2.2.2.2.2.2.2.2.2.length) (Yi J1 O O O O) O (J6c (f:=G3.av) (xs:=s106.2.2.2.2.2.2.2.2.2.2.2.2) Hs O O O (fun hm74=>?_) O O O)))
   refine JLh (BL (decide ((s106.2.2.2.2.2.2.2.2.2.2.2.2.length:Int)=0))) (Jf O O O) O (G7 (hK131 (JCc O h (fun h hb=>?_) (fun h hb=>?_))))
   ·
    refine G4 ?_
    refine JLh (.agg [G0 0,G0 0,BL false,G0 3,G0 0,G0 500000000,G0 500000000,G0 0,E0 ([]:List Int),G0 0,G0 0,G0 2000]) (Hg (cs:=[G0 0,G0 0,BL false,G0 3,G0 0,G0 500000000,G0 500000000,G0 0,E0 ([]:List Int),G0 0,G0 0,G0 2000]) [(0,1),(1,1),(2,1),(3,1),(4,1),(5,1),(6,1),(7,1),(8,1),(9,1),(10,1),(11,1)] [G0 0,G0 0,BL false,G0 0,G0 0,G0 0,G0 0,G0 0,E0 ([]:List Int),G0 0,G0 0,G0 0] [.int .i64 0,.int .i64 0,.bool false,.int .i64 0,.int .i64 0,.int .i64 0,.int .i64 0,.int .i64 0,.slice none 0 0,.int .i64 0,.int .i64 0,.int .i64 0] G14 G5d ⟨.inl O,.inl O,.inl O,.inl O,.inl O,.inl O,.inl O,.inl O,.inr ⟨_,O,O⟩,.inl O,.inl O,.inl O,G⟩ O O) O (JLh (.vec 1060 (([(G3.mk 0 0 false 3 0 500000000 500000000 0 [] 0 0 2000)]).length) 12 (([(G3.mk 0 0 false 3 0 500000000 500000000 0 [] 0 0 2000)]).length)) (A_litVecM 1060 (f:=G3.av) ([(G3.mk 0 0 false 3 0 500000000 500000000 0 [] 0 0 2000)]) (ver1:=([(G3.mk 0 0 false 3 0 500000000 500000000 0 [] 0 0 2000)]).length) rfl ⟨rfl,rfl,G⟩ Hs Z2 rfl rfl rfl rfl rfl (by have hb_:=of_decide_eq_true hb; simp only [List.length_cons,List.length_nil]; omega)) O (JLh (.ptr 1057 0) (Q8 Ho O O) O (Hu (u:=.junk) (Hj (u:=.vec 1060 (([(G3.mk 0 0 false 3 0 500000000 500000000 0 [] 0 0 2000)]).length) 12 (([(G3.mk 0 0 false 3 0 500000000 500000000 0 [] 0 0 2000)]).length)) (ds:=[.vec 1060 (([(G3.mk 0 0 false 3 0 500000000 500000000 0 [] 0 0 2000)]).length) 12 (([(G3.mk 0 0 false 3 0 500000000 500000000 0 [] 0 0 2000)]).length),OW 1061 2 G9.av s106.1,G0 s106.2.1,G0 s106.2.2.1,G0 s106.2.2.2.1,G0 s106.2.2.2.2.1,E4 s106.2.2.2.2.2.1,E5 s106.2.2.2.2.2.2.1,E6 s106.2.2.2.2.2.2.2.1,G0 s106.2.2.2.2.2.2.2.2.1,G0 s106.2.2.2.2.2.2.2.2.2.1,G0 s106.2.2.2.2.2.2.2.2.2.2.1,G0 s106.2.2.2.2.2.2.2.2.2.2.2.1]) J1a O O O O O O O O) (G7 ?_))))
    exact ej130 _ _ ([(G3.mk 0 0 false 3 0 500000000 500000000 0 [] 0 0 2000)]) h ⟨⟨.same rfl,.same rfl,.same rfl,G⟩,⟨⟨_,rfl,.vec⟩,⟨_,rfl,.same⟩,⟨_,rfl,.boxL rfl (by repeat' constructor)⟩,⟨_,rfl,.boxL rfl (by repeat' constructor)⟩,G⟩,rfl⟩
   ·
    refine Gs (ej130 _ _ s106.2.2.2.2.2.2.2.2.2.2.2.2 h ⟨⟨.same rfl,.same rfl,.same rfl,G⟩,⟨⟨_,rfl,.vec⟩,⟨_,rfl,.same⟩,⟨_,rfl,.boxL rfl (by repeat' constructor)⟩,⟨_,rfl,.boxL rfl (by repeat' constructor)⟩,G⟩,rfl⟩)
  ·intro j130 h
   replace h:=app1 hkj130 h
   refine Js fun hK132=>Jr fun hK133=>(Rt (G0 0) O (G7 (hK133 (H1 ?_))))
   obtain⟨hx200,h⟩:=Ja h
   obtain⟨b200,kx200,hb200,hkx200,h⟩:=upto_in h
   refine J3 (fun i200 (s200:(List G9)×Int×Int×Int×Int×(List Row)×(List Frame)×(List Gp)×Int×Int×Int×Int)=>upto b200 kx200 ((5:Int).toNat - i200) i200 s200=some r) (fun i200 s200=>[(1,.sc (.int .u32 covers)),(4,.ptr 1056 0),(5,.ptr 1057 0),(11,Ej i200)]) (fun i200 s200=>[(1060,.vec 55 12 j130.length (j130.map G3.av)),(1061,.spare 70 2 s200.1.length s200.1.length),(1056,.box 36 [E7 ([]:List G3),E3 ([]:List G9),G0 0,G0 0,G0 0,G0 0,E4 ([]:List Row),E5 ([]:List Frame),E6 ([]:List Gp),G0 0,G0 0,G0 0,G0 0]),(1057,.box 36 [.vec 1060 j130.length 12 j130.length,OW 1061 2 G9.av s200.1,G0 s200.2.1,G0 s200.2.2.1,G0 s200.2.2.2.1,G0 s200.2.2.2.2.1,E4 s200.2.2.2.2.2.1,E5 s200.2.2.2.2.2.2.1,E6 s200.2.2.2.2.2.2.2.1,G0 s200.2.2.2.2.2.2.2.2.1,G0 s200.2.2.2.2.2.2.2.2.2.1,G0 s200.2.2.2.2.2.2.2.2.2.2.1,G0 s200.2.2.2.2.2.2.2.2.2.2.2])]) (fun i200=>(5:Int).toNat - i200) 0 (s106.1,s106.2.1,s106.2.2.1,s106.2.2.2.1,s106.2.2.2.2.1,s106.2.2.2.2.2.1,s106.2.2.2.2.2.2.1,s106.2.2.2.2.2.2.2.1,s106.2.2.2.2.2.2.2.2.1,s106.2.2.2.2.2.2.2.2.2.1,s106.2.2.2.2.2.2.2.2.2.2.1,s106.2.2.2.2.2.2.2.2.2.2.2.1) h ⟨(by repeat' constructor),⟨⟨_,rfl,.vec⟩,⟨_,rfl,.same⟩,⟨_,rfl,.boxL rfl (by repeat' constructor)⟩,⟨_,rfl,.boxL rfl (by repeat' constructor)⟩,G⟩,rfl⟩ ?_
   clear h
   intro i200 s200 hi200 K200 e200
   refine Js fun hK201=>Jr fun hK202=>(Rt (Ej i200) O (JLh (BL (decide ((i200:Int) < 5))) (Q0 O O O) O (G7 (hK202 (Gn O (fun hb=>?_) (fun hb=>?_))))))
   ·
    have hk200:=J4e hb
    obtain⟨nx200,hn200,h⟩:=J14 hi200 hk200
    replace h:=app3 hb200 h
    refine Gs (hK201 ?_)
    obtain⟨kj203,hkj203,h⟩:=Yo h
    refine R9 (fun j203:(List G9)=>kj203 j203=some r) (fun j203=>[(1,.sc (.int .u32 covers)),(4,.ptr 1056 0),(5,.ptr 1057 0),(11,Ej i200)]) (fun j203=>[(1060,.vec 55 12 j130.length (j130.map G3.av)),(1061,.spare 70 2 j203.length j203.length),(1056,.box 36 [E7 ([]:List G3),E3 ([]:List G9),G0 0,G0 0,G0 0,G0 0,E4 ([]:List Row),E5 ([]:List Frame),E6 ([]:List Gp),G0 0,G0 0,G0 0,G0 0]),(1057,.box 36 [.vec 1060 j130.length 12 j130.length,OW 1061 2 G9.av j203,G0 s200.2.1,G0 s200.2.2.1,G0 s200.2.2.2.1,G0 s200.2.2.2.2.1,E4 s200.2.2.2.2.2.1,E5 s200.2.2.2.2.2.2.1,E6 s200.2.2.2.2.2.2.2.1,G0 s200.2.2.2.2.2.2.2.2.1,G0 s200.2.2.2.2.2.2.2.2.2.1,G0 s200.2.2.2.2.2.2.2.2.2.2.1,G0 s200.2.2.2.2.2.2.2.2.2.2.2])]) (fun Kj203 ej203=>?_) ?_
    ·
     refine H1 ?_
     obtain⟨kj204,hkj204,h⟩:=Yo h
     refine R9 (fun j204:(List G9)=>kj204 j204=some r) (fun j204=>[(1,.sc (.int .u32 covers)),(4,.ptr 1056 0),(5,.ptr 1057 0),(11,Ej i200)]) (fun j204=>[(1060,.vec 55 12 j130.length (j130.map G3.av)),(1061,.spare 70 2 j204.length j204.length),(1056,.box 36 [E7 ([]:List G3),E3 ([]:List G9),G0 0,G0 0,G0 0,G0 0,E4 ([]:List Row),E5 ([]:List Frame),E6 ([]:List Gp),G0 0,G0 0,G0 0,G0 0]),(1057,.box 36 [.vec 1060 j130.length 12 j130.length,OW 1061 2 G9.av j204,G0 s200.2.1,G0 s200.2.2.1,G0 s200.2.2.2.1,G0 s200.2.2.2.2.1,E4 s200.2.2.2.2.2.1,E5 s200.2.2.2.2.2.2.1,E6 s200.2.2.2.2.2.2.2.1,G0 s200.2.2.2.2.2.2.2.2.1,G0 s200.2.2.2.2.2.2.2.2.2.1,G0 s200.2.2.2.2.2.2.2.2.2.2.1,G0 s200.2.2.2.2.2.2.2.2.2.2.2])]) (fun Kj204 ej204=>?_) ?_
     ·
      refine Jr fun hK205=>(Rt (.sc (.int .u32 covers)) O (Rt (Ej i200) O ?_))
      obtain⟨v206,hv206,h⟩:=Jg h
      refine JLh (G0 v206) (Hf9 hv206 O O O) O ?_
      obtain⟨m207,hm207,h⟩:=Gf h
      refine JLh (.sc (.int .u32 (G82 .u32 covers m207))) (Hda (s:=m207) (G41 hm207).1 O O O) O (JLh (.sc (.int .u32 (H20 .u32 (G82 .u32 covers m207) 1))) (J78 O O O) O (JLh (BL (decide ((H20 .u32 (G82 .u32 covers m207) 1)=1))) (Jf O O O) O (G7 (hK205 (JCc O h (fun h hb=>?_) (fun h hb=>?_))))))
      ·
       refine G4 (JLh (.ptr 1057 1) (Q8 Hx O O) O (JLh (OW 1061 2 G9.av s200.1) (Yi J9 O O O O) O (Rt (Ej i200) O (JLh (E0 [0,1]) (H5 (xs:=[G0 0,G0 1]) O ⟨O,O,O,O,G⟩ Gq Jm O O O O) O (JLh (.agg [Ej i200,E0 [0,1]]) (Hg (cs:=[Ej i200,E0 [0,1]]) [(0,1),(1,1)] [G0 0,E0 ([]:List Int)] [.int .i64 0,.slice none 0 0] H10 H74 ⟨.inl O,.inr ⟨_,O,O⟩,G⟩ O O) O (JLh (E3 ([(G9.mk (i200:Int) [0,1])])) (H5 (xs:=[.agg [Ej i200,E0 [0,1]]]) O ⟨O,O,G⟩ J7 G9a O O O O) O ?_))))))
       obtain⟨ha208,h⟩:=Ja h
       refine JLh (OW 1061 2 G9.av (s200.1++[(G9.mk (i200:Int) [0,1])])) (Y2 (f:=G9.av) (xs:=s200.1) (ys:=[(G9.mk (i200:Int) [0,1])]) O O O O J7 J22 ha208 (fun _=>O) (.inl O) O) O (JLh (.ptr 1057 1) (Q8 Hx O O) O (Hu (u:=.junk) (Hj (u:=OW 1061 2 G9.av (s200.1++[(G9.mk (i200:Int) [0,1])])) (ds:=[.vec 1060 j130.length 12 j130.length,OW 1061 2 G9.av (s200.1++[(G9.mk (i200:Int) [0,1])]),G0 s200.2.1,G0 s200.2.2.1,G0 s200.2.2.2.1,G0 s200.2.2.2.2.1,E4 s200.2.2.2.2.2.1,E5 s200.2.2.2.2.2.2.1,E6 s200.2.2.2.2.2.2.2.1,G0 s200.2.2.2.2.2.2.2.2.1,G0 s200.2.2.2.2.2.2.2.2.2.1,G0 s200.2.2.2.2.2.2.2.2.2.2.1,G0 s200.2.2.2.2.2.2.2.2.2.2.2]) J19 O O O O O O O O) (G7 ?_)))
       exact ej204 _ _ (s200.1++[(G9.mk (i200:Int) [0,1])]) h ⟨(by repeat' constructor),⟨⟨_,rfl,.vec⟩,⟨_,rfl,.same⟩,⟨_,rfl,.boxL rfl (by repeat' constructor)⟩,⟨_,rfl,.boxL rfl (by repeat' constructor)⟩,G⟩,rfl⟩
      ·
       refine Gs (ej204 _ _ s200.1 h ⟨(by repeat' constructor),⟨⟨_,rfl,.vec⟩,⟨_,rfl,.same⟩,⟨_,rfl,.boxL rfl (by repeat' constructor)⟩,⟨_,rfl,.boxL rfl (by repeat' constructor)⟩,G⟩,rfl⟩)
     ·intro j204 h
      replace h:=app1 hkj204 h
      refine Jr fun hK209=>(Rt (.sc (.int .u32 covers)) O (Rt (Ej i200) O ?_))
      obtain⟨v210,hv210,h⟩:=Jg h
      refine JLh (G0 v210) (Hf9 hv210 O O O) O ?_
      obtain⟨v211,hv211,h⟩:=Jg h
      refine JLh (G0 v211) (J0 hv211 O O O) O ?_
      obtain⟨m212,hm212,h⟩:=Gf h
      refine JLh (.sc (.int .u32 (G82 .u32 covers m212))) (Hda (s:=m212) (G41 hm212).1 O O O) O (JLh (.sc (.int .u32 (H20 .u32 (G82 .u32 covers m212) 1))) (J78 O O O) O (JLh (BL (decide ((H20 .u32 (G82 .u32 covers m212) 1)=1))) (Jf O O O) O (G7 (hK209 (JCc O h (fun h hb=>?_) (fun h hb=>?_))))))
      ·
       refine G4 (JLh (.ptr 1057 1) (Q8 Hx O O) O (JLh (OW 1061 2 G9.av j204) (Yi J9 O O O O) O (Rt (Ej i200) O (JLh (E0 [2,3,4]) (H5 (xs:=[G0 2,G0 3,G0 4]) O ⟨O,O,O,O,O,O,G⟩ Gq Jm O O O O) O (JLh (.agg [Ej i200,E0 [2,3,4]]) (Hg (cs:=[Ej i200,E0 [2,3,4]]) [(0,1),(1,1)] [G0 0,E0 ([]:List Int)] [.int .i64 0,.slice none 0 0] H10 H74 ⟨.inl O,.inr ⟨_,O,O⟩,G⟩ O O) O (JLh (E3 ([(G9.mk (i200:Int) [2,3,4])])) (H5 (xs:=[.agg [Ej i200,E0 [2,3,4]]]) O ⟨O,O,G⟩ J7 G9a O O O O) O ?_))))))
       obtain⟨ha213,h⟩:=Ja h
       refine JLh (OW 1061 2 G9.av (j204++[(G9.mk (i200:Int) [2,3,4])])) (Y2 (f:=G9.av) (xs:=j204) (ys:=[(G9.mk (i200:Int) [2,3,4])]) O O O O J7 J22 ha213 (fun _=>O) (.inl O) O) O (JLh (.ptr 1057 1) (Q8 Hx O O) O (Hu (u:=.junk) (Hj (u:=OW 1061 2 G9.av (j204++[(G9.mk (i200:Int) [2,3,4])])) (ds:=[.vec 1060 j130.length 12 j130.length,OW 1061 2 G9.av (j204++[(G9.mk (i200:Int) [2,3,4])]),G0 s200.2.1,G0 s200.2.2.1,G0 s200.2.2.2.1,G0 s200.2.2.2.2.1,E4 s200.2.2.2.2.2.1,E5 s200.2.2.2.2.2.2.1,E6 s200.2.2.2.2.2.2.2.1,G0 s200.2.2.2.2.2.2.2.2.1,G0 s200.2.2.2.2.2.2.2.2.2.1,G0 s200.2.2.2.2.2.2.2.2.2.2.1,G0 s200.2.2.2.2.2.2.2.2.2.2.2]) J19 O O O O O O O O) (G7 ?_)))
       exact ej203 _ _ (j204++[(G9.mk (i200:Int) [2,3,4])]) h ⟨(by repeat' constructor),⟨⟨_,rfl,.vec⟩,⟨_,rfl,.same⟩,⟨_,rfl,.boxL rfl (by repeat' constructor)⟩,⟨_,rfl,.boxL rfl (by repeat' constructor)⟩,G⟩,rfl⟩
      ·
       refine Gs (ej203 _ _ j204 h ⟨(by repeat' constructor),⟨⟨_,rfl,.vec⟩,⟨_,rfl,.same⟩,⟨_,rfl,.boxL rfl (by repeat' constructor)⟩,⟨_,rfl,.boxL rfl (by repeat' constructor)⟩,G⟩,rfl⟩)
    ·intro j203 h
     replace h:=app1 hkj203 h
     refine G4 (Rt (Ej i200) O (JLh (G0 ((i200+1:Nat):Int)) (J0 (Hv hk200 (Hba hx200)) O O O) O (Rt (G0 ((i200+1:Nat):Int)) O (G7 (e200 _ _ (i200+1) (j203,s200.2.1,s200.2.2.1,s200.2.2.2.1,s200.2.2.2.2.1,s200.2.2.2.2.2.1,s200.2.2.2.2.2.2.1,s200.2.2.2.2.2.2.2.1,s200.2.2.2.2.2.2.2.2.1,s200.2.2.2.2.2.2.2.2.2.1,s200.2.2.2.2.2.2.2.2.2.2.1,s200.2.2.2.2.2.2.2.2.2.2.2) (app1 hn200 h) (by omega) ⟨(by repeat' constructor),⟨⟨_,rfl,.vec⟩,⟨_,rfl,.same⟩,⟨_,rfl,.boxL rfl (by repeat' constructor)⟩,⟨_,rfl,.boxL rfl (by repeat' constructor)⟩,G⟩,rfl⟩)))))
   ·
    have h:=app1 hkx200 (J15 hi200 (H17 hb))
    refine J8 (hK132 ?_)
    refine Jr fun hK214=>(JLh (.agg [.vec 1060 j130.length 12 j130.length,OW 1061 2 G9.av s200.1,G0 s200.2.1,G0 s200.2.2.1,G0 s200.2.2.2.1,G0 s200.2.2.2.2.1,E4 s200.2.2.2.2.2.1,E5 s200.2.2.2.2.2.2.1,E6 s200.2.2.2.2.2.2.2.1,G0 s200.2.2.2.2.2.2.2.2.1,G0 s200.2.2.2.2.2.2.2.2.2.1,G0 s200.2.2.2.2.2.2.2.2.2.2.1,G0 s200.2.2.2.2.2.2.2.2.2.2.2]) (G8f H3 O O O O) O (Hu (u:=.junk) (Hj (u:=.agg [.vec 1060 j130.length 12 j130.length,OW 1061 2 G9.av s200.1,G0 s200.2.1,G0 s200.2.2.1,G0 s200.2.2.2.1,G0 s200.2.2.2.2.1,E4 s200.2.2.2.2.2.1,E5 s200.2.2.2.2.2.2.1,E6 s200.2.2.2.2.2.2.2.1,G0 s200.2.2.2.2.2.2.2.2.1,G0 s200.2.2.2.2.2.2.2.2.2.1,G0 s200.2.2.2.2.2.2.2.2.2.2.1,G0 s200.2.2.2.2.2.2.2.2.2.2.2]) (ds:=[.vec 1060 j130.length 12 j130.length,OW 1061 2 G9.av s200.1,G0 s200.2.1,G0 s200.2.2.1,G0 s200.2.2.2.1,G0 s200.2.2.2.2.1,E4 s200.2.2.2.2.2.1,E5 s200.2.2.2.2.2.2.1,E6 s200.2.2.2.2.2.2.2.1,G0 s200.2.2.2.2.2.2.2.2.1,G0 s200.2.2.2.2.2.2.2.2.2.1,G0 s200.2.2.2.2.2.2.2.2.2.2.1,G0 s200.2.2.2.2.2.2.2.2.2.2.2]) G13 O O O O O O O O) (G7 (hK214 ?_))))
    refine Gw ?_
    obtain rfl:=Option.some.inj h
    exact⟨[.agg [.vec 1060 j130.length 12 j130.length,E3 s200.1,G0 s200.2.1,G0 s200.2.2.1,G0 s200.2.2.2.1,G0 s200.2.2.2.2.1,E4 s200.2.2.2.2.2.1,E5 s200.2.2.2.2.2.2.1,E6 s200.2.2.2.2.2.2.2.1,G0 s200.2.2.2.2.2.2.2.2.1,G0 s200.2.2.2.2.2.2.2.2.2.1,G0 s200.2.2.2.2.2.2.2.2.2.2.1,G0 s200.2.2.2.2.2.2.2.2.2.2.2]],[(1060,.vec 55 12 j130.length (j130.map G3.av))],⟨⟨_,O,.vec⟩,G⟩,O,⟨⟨_,⟨_,_,_,_,O,O,O,.inl ⟨H3,O⟩⟩,.agg ⟨.same O,.list O,.same O,.same O,.same O,.same O,.same O,.same O,.same O,.same O,.same O,.same O,.same O,G⟩⟩,G⟩,j130.length,O,O⟩

def Jy (l:List Gy) (covers:Int):Option Gr:=
 bnd (Ry l covers) fun r3=>
 each (fun y39 i39 (s39:(List G3)) nx39=>
  jp (fun kj42=>
   bnd (Gcc (i39:Int) 20) fun v45=>
   G1c (10+v45) fun v46=>
   bnd (Gfc v46 4294967295) fun m47=>
   bif decide ((H20 .u32 (G82 .u32 covers m47) 1)=1) then
   (Y9 s39 (i39:Int) fun y48=>
    kj42 (s39.set (i39:Int).toNat (G3.mk y48.Bay y48.Row y48.Deck y48.Tiers 8000 y48.Kilos20 y48.Kilos40 y48.Lash y48.Plugs y48.X y48.Y y48.Z)))
   else
   (kj42 s39)) fun(j42:(List G3))=>
  nx39 j42)
 (fun(s39:(List G3))=>
  some (Gr.mk s39 r3.Covers r3.Light r3.Rows r3.Frames r3.Tanks r3.G2)) r3.Columns 0 r3.Columns
theorem Rx (l:List Gy) (covers:Int) (r:Gr) (h:Jy l covers=some r):Pure Ek 7 [Eb l,.sc (.int .u32 covers)] (·=.agg (Gr.cs r)):=by
 unfold Jy at h
 refine H7 [.cell 4 36] Tryz.func7 O O (Jr fun hK1=>(JLh (.ptr 1024 0) (Gdb 1024 [E7 ([]:List G3),E3 ([]:List G9),G0 0,G0 0,G0 0,G0 0,E4 ([]:List Row),E5 ([]:List Frame),E6 ([]:List Gp),G0 0,G0 0,G0 0,G0 0] [.slice none 0 0,.slice none 0 0,.int .i64 0,.int .i64 0,.int .i64 0,.int .i64 0,.slice none 0 0,.slice none 0 0,.slice none 0 0,.int .i64 0,.int .i64 0,.int .i64 0,.int .i64 0] Gc4 ⟨.inr ⟨_,O,O⟩,.inr ⟨_,O,O⟩,.inl O,.inl O,.inl O,.inl O,.inr ⟨_,O,O⟩,.inr ⟨_,O,O⟩,.inr ⟨_,O,O⟩,.inl O,.inl O,.inl O,.inl O,G⟩ O O) O (G7 (hK1 (Jr fun hK2=>(Rt (Eb l) O (Rt (.sc (.int .u32 covers)) O ?_)))))))
 obtain⟨r3,hr3,h⟩:=Gf h
 refine Ge8 O O O (A_callLE (args:=[Eb l,.sc (.int .u32 covers)]) (L0:=[]) (u:=fun p=>.agg [.vec 1060 p 12 r3.Columns.length,E3 r3.Covers,G0 r3.Light.Kilos,G0 r3.Light.X,G0 r3.Light.Y,G0 r3.Light.Z,E4 r3.Rows,E5 r3.Frames,E6 r3.Tanks,G0 r3.G2.Tolerance,G0 r3.G2.Trim,G0 r3.G2.List_,G0 r3.G2.Stability]) (Lr:=fun p=>[(1060,.vec 55 12 p (r3.Columns.map G3.av))]) O (Gf5 l covers r3 hr3) Jd9 ⟨.inl O,O,.inl O,O,G⟩ G O (fun _=>O)) ?_
 rintro u_ L_ ⟨v4,rfl,rfl⟩
 refine JLh (.ptr 1025 0) (Ht 1025 13 G64 O O) O (Hu (u:=.junk) (Hj (u:=.agg [.vec 1060 v4 12 r3.Columns.length,E3 r3.Covers,G0 r3.Light.Kilos,G0 r3.Light.X,G0 r3.Light.Y,G0 r3.Light.Z,E4 r3.Rows,E5 r3.Frames,E6 r3.Tanks,G0 r3.G2.Tolerance,G0 r3.G2.Trim,G0 r3.G2.List_,G0 r3.G2.Stability]) (ds:=[.vec 1060 v4 12 r3.Columns.length,E3 r3.Covers,G0 r3.Light.Kilos,G0 r3.Light.X,G0 r3.Light.Y,G0 r3.Light.Z,E4 r3.Rows,E5 r3.Frames,E6 r3.Tanks,G0 r3.G2.Tolerance,G0 r3.G2.Trim,G0 r3.G2.List_,G0 r3.G2.Stability]) G13 O O O O O O O O) (G7 (hK2 (Js fun hK5=>?_))))
 refine Jr fun hK6=>(JLh (.ptr 1025 0) (Q8 Ho O O) O (JLh (.vec 1060 v4 12 r3.Columns.length) (Yi J1 O O O O) O (J6c (f:=G3.av) (xs:=r3.Columns) Hs O O O (fun hm12=>?_) O O O)))
 refine Rt (G0 0) O (G7 (hK6 (H1 ?_)))
 obtain⟨b39,kx39,hb39,hkx39,h⟩:=Jj h
 refine J3 (fun i39 (s39:(List G3))=>each b39 kx39 (List.drop i39 r3.Columns) i39 s39=some r) (fun i39 s39=>[(1,.sc (.int .u32 covers)),(4,.ptr 1024 0),(5,.ptr 1025 0),(12,Ej r3.Columns.length),(13,Ej i39)]) (fun i39 s39=>[(1060,.vec 55 12 v4 (s39.map G3.av)),(1024,.box 36 [E7 ([]:List G3),E3 ([]:List G9),G0 0,G0 0,G0 0,G0 0,E4 ([]:List Row),E5 ([]:List Frame),E6 ([]:List Gp),G0 0,G0 0,G0 0,G0 0]),(1025,.box 36 [.vec 1060 v4 12 r3.Columns.length,E3 r3.Covers,G0 r3.Light.Kilos,G0 r3.Light.X,G0 r3.Light.Y,G0 r3.Light.Z,E4 r3.Rows,E5 r3.Frames,E6 r3.Tanks,G0 r3.G2.Tolerance,G0 r3.G2.Trim,G0 r3.G2.List_,G0 r3.G2.Stability])]) (fun i39=>r3.Columns.length - i39) 0 r3.Columns h ⟨(by repeat' constructor),⟨⟨_,rfl,.vec⟩,⟨_,rfl,.boxL rfl (by repeat' constructor)⟩,⟨_,rfl,.boxL rfl (by repeat' constructor)⟩,G⟩,rfl⟩ ?_
 clear h
 intro i39 s39 hi39 K39 e39
 refine Jr fun hK40=>(JLh (BL (decide ((i39:Int) < (r3.Columns.length:Int)))) (Q0 O O O) O (G7 (hK40 (Js fun hK41=>Gn O (fun hb=>?_) (fun hb=>?_)))))
 ·
  have hk39:=Qd hb
  obtain⟨y39,nx39,hy39,hn39,h⟩:=J4 hi39 hk39
  replace h:=Zz hb39 h
  refine Gs (hK41 ?_)
  obtain⟨kj42,hkj42,h⟩:=Yo h
  refine R9 (fun j42:(List G3)=>kj42 j42=some r) (fun j42=>[(1,.sc (.int .u32 covers)),(4,.ptr 1024 0),(5,.ptr 1025 0),(12,Ej r3.Columns.length),(13,Ej i39)]) (fun j42=>[(1060,.vec 55 12 v4 (j42.map G3.av)),(1024,.box 36 [E7 ([]:List G3),E3 ([]:List G9),G0 0,G0 0,G0 0,G0 0,E4 ([]:List Row),E5 ([]:List Frame),E6 ([]:List Gp),G0 0,G0 0,G0 0,G0 0]),(1025,.box 36 [.vec 1060 v4 12 r3.Columns.length,E3 r3.Covers,G0 r3.Light.Kilos,G0 r3.Light.X,G0 r3.Light.Y,G0 r3.Light.Z,E4 r3.Rows,E5 r3.Frames,E6 r3.Tanks,G0 r3.G2.Tolerance,G0 r3.G2.Trim,G0 r3.G2.List_,G0 r3.G2.Stability])]) (fun Kj42 ej42=>?_) ?_
  ·
   refine H1 (Jr fun hK43=>(Rt (Ej i39) O (Rt (Ej i39) O (G7 (hK43 (Jr fun hK44=>(Rt (.sc (.int .u32 covers)) O (Rt (Ej i39) O ?_))))))))
   obtain⟨v45,hv45,h⟩:=Gf h
   refine JLh (G0 v45) (Gec (Jt hv45).1 (Jt hv45).2 O O O) O ?_
   obtain⟨v46,hv46,h⟩:=Jg h
   refine JLh (G0 v46) (J0 hv46 O O O) O ?_
   obtain⟨m47,hm47,h⟩:=Gf h
   refine JLh (.sc (.int .u32 (G82 .u32 covers m47))) (Hda (s:=m47) (G41 hm47).1 O O O) O (JLh (.sc (.int .u32 (H20 .u32 (G82 .u32 covers m47) 1))) (J78 O O O) O (JLh (BL (decide ((H20 .u32 (G82 .u32 covers m47) 1)=1))) (Jf O O O) O (G7 (hK44 (JCc O h (fun h hb=>?_) (fun h hb=>?_))))))
   ·
    refine G4 (JLh (.ptr 1025 0) (Q8 Ho O O) O (JLh (.vec 1060 v4 12 r3.Columns.length) (Yi J1 O O O O) O (Rt (Ej i39) O ?_)))
    obtain⟨y48,hmy48,hy48,h⟩:=H5d h
    refine JLh (.vptr 1060 v4 ((i39:Int).toNat) 0) (J11 (f:=G3.av) (xs:=s39) (y:=y48) O O O O Hs hy48 hmy48) O (JLh (.vptr 1060 v4 ((i39:Int).toNat) 4) (G22 Gf2 O O O) O (Hu (u:=.junk) (Gc3 (f:=G3.av) (xs:=s39) (e:=y48) (z:=(G3.mk y48.Bay y48.Row y48.Deck y48.Tiers 8000 y48.Kilos20 y48.Kilos40 y48.Lash y48.Plugs y48.X y48.Y y48.Z)) (u:=G0 8000) G3f O O O O hy48 O O O O O) (G7 (ej42 _ _ (s39.set (i39:Int).toNat (G3.mk y48.Bay y48.Row y48.Deck y48.Tiers 8000 y48.Kilos20 y48.Kilos40 y48.Lash y48.Plugs y48.X y48.Y y48.Z)) h ⟨(by repeat' constructor),⟨⟨_,rfl,.vec⟩,⟨_,rfl,.boxL rfl (by repeat' constructor)⟩,⟨_,rfl,.boxL rfl (by repeat' constructor)⟩,G⟩,rfl⟩))))
   ·
    refine Gs (ej42 _ _ s39 h ⟨(by repeat' constructor),⟨⟨_,rfl,.vec⟩,⟨_,rfl,.boxL rfl (by repeat' constructor)⟩,⟨_,rfl,.boxL rfl (by repeat' constructor)⟩,G⟩,rfl⟩)
  ·intro j42 h
   replace h:=app1 hkj42 h
   refine G4 (JLh (G0 ((i39+1:Nat):Int)) (J0 (Hv hk39 hm12) O O O) O (Rt (G0 ((i39+1:Nat):Int)) O (G7 (e39 _ _ (i39+1) j42 (app1 hn39 h) (by omega) ⟨(by repeat' constructor),⟨⟨_,rfl,.vec⟩,⟨_,rfl,.boxL rfl (by repeat' constructor)⟩,⟨_,rfl,.boxL rfl (by repeat' constructor)⟩,G⟩,rfl⟩))))
 ·
  have h:=app1 hkx39 (J5 hi39 (Hi hb))
  refine J8 (hK5 ?_)
  refine Jr fun hK49=>(JLh (.agg [.vec 1060 v4 12 r3.Columns.length,E3 r3.Covers,G0 r3.Light.Kilos,G0 r3.Light.X,G0 r3.Light.Y,G0 r3.Light.Z,E4 r3.Rows,E5 r3.Frames,E6 r3.Tanks,G0 r3.G2.Tolerance,G0 r3.G2.Trim,G0 r3.G2.List_,G0 r3.G2.Stability]) (G8f H3 O O O O) O (Hu (u:=.junk) (Hj (u:=.agg [.vec 1060 v4 12 r3.Columns.length,E3 r3.Covers,G0 r3.Light.Kilos,G0 r3.Light.X,G0 r3.Light.Y,G0 r3.Light.Z,E4 r3.Rows,E5 r3.Frames,E6 r3.Tanks,G0 r3.G2.Tolerance,G0 r3.G2.Trim,G0 r3.G2.List_,G0 r3.G2.Stability]) (ds:=[.vec 1060 v4 12 r3.Columns.length,E3 r3.Covers,G0 r3.Light.Kilos,G0 r3.Light.X,G0 r3.Light.Y,G0 r3.Light.Z,E4 r3.Rows,E5 r3.Frames,E6 r3.Tanks,G0 r3.G2.Tolerance,G0 r3.G2.Trim,G0 r3.G2.List_,G0 r3.G2.Stability]) G13 O O O O O O O O) (G7 (hK49 ?_))))
  refine JC_vgiveB 1024 0 (v4+1) O O O (Nat.lt_succ_self _) (cs':=[E7 s39,E3 r3.Covers,G0 r3.Light.Kilos,G0 r3.Light.X,G0 r3.Light.Y,G0 r3.Light.Z,E4 r3.Rows,E5 r3.Frames,E6 r3.Tanks,G0 r3.G2.Tolerance,G0 r3.G2.Trim,G0 r3.G2.List_,G0 r3.G2.Stability]) O (Gw (⟨[.agg [E7 s39,E3 r3.Covers,G0 r3.Light.Kilos,G0 r3.Light.X,G0 r3.Light.Y,G0 r3.Light.Z,E4 r3.Rows,E5 r3.Frames,E6 r3.Tanks,G0 r3.G2.Tolerance,G0 r3.G2.Trim,G0 r3.G2.List_,G0 r3.G2.Stability]],[],G,O,⟨⟨_,⟨_,_,_,_,O,O,O,.inl ⟨H3,O⟩⟩,.conv (.same O)⟩,G⟩,O,congrArg (fun r:Gr=>(.agg (Gr.cs r):AV)) (Option.some.inj h)⟩))
end
end Go.Proofs.YtbljcmgjmieffaaGreat
