/-
 Models of functions of the program,and that they return what the models say.
-/
import Derived.Test.YtapmanciffiibaaGreatSpecR
set_option linter.unnecessarySimpa false
set_option maxRecDepth 100000
set_option linter.unusedVariables false
set_option linter.unusedSimpArgs false
namespace Go.Proofs.YtapmanciffiibaaGreat
open Go.RowKit
noncomputable section
structure H2 where
 Bay:Int
 Row:Int
 Tiers:Int
 Deck:Bool
 deriving DecidableEq,Inhabited
def H2.cs (x:H2):List AV:=[U8 x.Bay,U8 x.Row,U8 x.Tiers,BL x.Deck]
def H2.av (x:H2):AV:=.agg x.cs
abbrev Eb:=LS 4 H2.av
namespace XBF
open XAF
open XCF
open XGF
theorem tf_agg_90:G73 Ek 90 4=true:=by kernel_rfl
theorem J91:Hc Ek 11=true:=by kernel_rfl
theorem J8b:Hc Ek 34=true:=by kernel_rfl
theorem J79:Hc Ek 63=true:=by kernel_rfl
theorem J69:R3 Ek 57 12 112=true:=by kernel_rfl
theorem Hd5:R3 Ek 94 2 32=true:=by kernel_rfl
theorem J2e:J7 Ek 90 0 0=true:=by kernel_rfl
theorem J2d:J7 Ek 90 1 1=true:=by kernel_rfl
theorem J2c:J7 Ek 90 2 2=true:=by kernel_rfl
theorem J2b:J7 Ek 90 3 3=true:=by kernel_rfl
theorem G8b:H69 Ek 3 .i64=true:=by kernel_rfl
theorem Gf1:H69 Ek 5 .u8=true:=by kernel_rfl
theorem Z9:placesOf Ek 57=some [(0,1),(1,1),(2,1),(3,1),(4,1),(5,1),(6,1),(7,1),(8,1),(9,1),(10,1),(11,1)]:=by kernel_rfl
theorem Gd3:placesOf Ek 94=some [(0,1),(1,1)]:=by kernel_rfl
theorem Hcf:Qt Ek 26 1=true:=by kernel_rfl
theorem Hce:Qt Ek 27 1=true:=by kernel_rfl
theorem Gbe:Qt Ek 3 1=true:=by kernel_rfl
theorem G49:Qt Ek 36 13=true:=by kernel_rfl
theorem J62:Qt Ek 90 4=true:=by kernel_rfl
theorem Gaa:sliceB Ek 22 90 4=true:=by kernel_rfl
theorem G8a:(Ek.info? 36).bind (fun i=>i.zero.map Value.cells)=some (List.toArray [.slice none 0 0,.slice none 0 0,.int .i64 0,.int .i64 0,.int .i64 0,.int .i64 0,.slice none 0 0,.slice none 0 0,.slice none 0 0,.int .i64 0,.int .i64 0,.int .i64 0,.int .i64 0]):=by kernel_rfl
theorem G23:(Ek.info? 57).bind (fun i=>i.zero.map Value.cells)=some (List.toArray [.int .i64 0,.int .i64 0,.bool false,.int .i64 0,.int .i64 0,.int .i64 0,.int .i64 0,.int .i64 0,.slice none 0 0,.int .i64 0,.int .i64 0,.int .i64 0]):=by kernel_rfl
theorem H38:(Ek.info? 94).bind (fun i=>i.zero.map Value.cells)=some (List.toArray [.int .i64 0,.slice none 0 0]):=by kernel_rfl
theorem Gf0:Qh Ek 36 13=true:=by kernel_rfl
theorem J47:Qh Ek 90 4=true:=by kernel_rfl
end XBF
open XAF
open XCF
open XGF
open XBF

def G61 (c:G3) (p1:Int) (p2:Int) (p3:Bool):Option Bool:=
 some (((decide (c.Bay=p1))&&(decide (c.Row=p2)))&&(c.Deck==p3))
theorem Hbe (c:G3) (p1:Int) (p2:Int) (p3:Bool) (r:Bool) (h:G61 c p1 p2 p3=some r):Pure Ek 63 [.agg (G3.cs c),.dptr [G0 p1],.dptr [G0 p2],.dptr [BL p3]] (·=BL r):=by
 unfold G61 at h
 refine H1 [.tmp 5] Tryz.func63 O O (Jr fun hK1=>(JLh (.ptr 1095 0) (Jf (cs:=(G3.cs c)) 1095 O O O O O) O (Rq (BL false) O (G7 (hK1 (Gs [(1,.dptr [G0 p1]),(2,.dptr [G0 p2]),(3,.dptr [BL p3]),(4,Ee c)] [] 1095 rfl rfl rfl G rfl (by repeat' (first | exact .ptr | constructor)) ?_))))))
 refine Jr fun hK2=>(JLh (Ee c) (Gd Zi O O O) O (JLh (G0 c.Bay) (Gi Ge O O O) O (JLh (G0 p1) (Gi Ge O O O) O (JLh (BL (decide (c.Bay=p1))) (Qc O O O) O (Rq (BL (decide (c.Bay=p1))) O (JLo (.dptr [G0 c.Row,BL c.Deck,G0 c.Tiers,G0 c.Height,G0 c.Kilos20,G0 c.Kilos40,G0 c.Lash,E0 c.Plugs,G0 c.X,G0 c.Y,G0 c.Z]) [] O .sct G (fun hc=>Gd Zh O O O) O (JLo (G0 c.Row) [11] O .sct ⟨Ua,G⟩ (fun hc=>Gi Ge O O O) O (JLo (G0 p2) [] O .sct G (fun hc=>Gi Ge O O O) O (JLo (BL (decide (c.Row=p2))) [12,13] O .sct ⟨Ua,Ua,G⟩ (fun hc=>Qc O O O) O (JLh (BL ((decide (c.Bay=p1))&&(decide (c.Row=p2)))) (Qu O O O O) O (Rq (BL ((decide (c.Bay=p1))&&(decide (c.Row=p2)))) O (JLo (.dptr [BL c.Deck,G0 c.Tiers,G0 c.Height,G0 c.Kilos20,G0 c.Kilos40,G0 c.Lash,E0 c.Plugs,G0 c.X,G0 c.Y,G0 c.Z]) [] O .sct G (fun hc=>Gd Ym O O O) O (JLo (BL c.Deck) [17] O .sct ⟨Ua,G⟩ (fun hc=>Gi Qn O O O) O ?_)))))))))))))
 refine JLo (BL p3) [] O .sct G (fun hc=>Gi Qn O O O) O (JLo (BL (c.Deck==p3)) [18,19] O .sct ⟨Ua,Ua,G⟩ (fun hc=>J27 H7f O O O) O (JLh (BL (((decide (c.Bay=p1))&&(decide (c.Row=p2)))&&(c.Deck==p3))) (Qu O O O O) O (Rq (BL (((decide (c.Bay=p1))&&(decide (c.Row=p2)))&&(c.Deck==p3))) O (G7 (hK2 (Gt (fin1 BL h)))))))

def G6c (s:Gu) (bay:Int) (row:Int) (deck:Bool):Option (Int×Bool):=
 bnd (Ji s.Columns (fun z0=>G61 z0 bay row deck)) fun r3=>
 bif decide ((r3.length:Int)=0) then
 (some (0,false))
 else
 (Z1 r3 0 fun y8=>
  some (y8,true))
theorem M_ship_Find_w (s:Gu) (bay:Int) (row:Int) (deck:Bool) (r:Int×Bool) (h:G6c s bay row deck=some r):Pure Ek 34 [.agg (Gu.cs s),G0 bay,G0 row,BL deck] (·=.tup [G0 r.1,BL r.2]):=by
 unfold G6c at h
 refine H1 [.tmp 8,.tmp 9] Tryz.func34 O O (Jr fun hK1=>(JLh (.ptr 1070 0) (Jf (cs:=(Gu.cs s)) 1070 O O O O O) O (JLh (.ptr 1071 0) (Jf (cs:=[G0 bay]) 1071 O O O O O) O (JLh (.ptr 1072 0) (Jf (cs:=[G0 row]) 1072 O O O O O) O (JLh (.ptr 1073 0) (Jf (cs:=[BL deck]) 1073 O O O O O) O (Rq (G0 0) O (Rq (BL false) O (G7 (hK1 ?_)))))))))
 refine Gs [(4,Ec s),(5,.ptr 1071 0),(6,.ptr 1072 0),(7,.ptr 1073 0)] [(1071,.box 3 [G0 bay]),(1072,.box 3 [G0 row]),(1073,.box 4 [BL deck])] 1070 rfl rfl rfl ⟨⟨_,rfl,.boxEq rfl rfl⟩,⟨_,rfl,.boxEq rfl rfl⟩,⟨_,rfl,.boxEq rfl rfl⟩,G⟩ rfl (by repeat' (first | exact .ptr | constructor)) ?_
 refine Gs [(4,Ec s),(5,.dptr [G0 bay]),(6,.ptr 1072 0),(7,.ptr 1073 0)] [(1072,.box 3 [G0 row]),(1073,.box 4 [BL deck])] 1071 rfl rfl rfl ⟨⟨_,rfl,.boxEq rfl rfl⟩,⟨_,rfl,.boxEq rfl rfl⟩,G⟩ rfl (by repeat' (first | exact .ptr | constructor)) ?_
 refine Gs [(4,Ec s),(5,.dptr [G0 bay]),(6,.dptr [G0 row]),(7,.ptr 1073 0)] [(1073,.box 4 [BL deck])] 1072 rfl rfl rfl ⟨⟨_,rfl,.boxEq rfl rfl⟩,G⟩ rfl (by repeat' (first | exact .ptr | constructor)) ?_
 refine Gs [(4,Ec s),(5,.dptr [G0 bay]),(6,.dptr [G0 row]),(7,.dptr [BL deck])] [] 1073 rfl rfl rfl G rfl (by repeat' (first | exact .ptr | constructor)) ?_
 refine Jr fun hK2=>(JLh (Ec s) (Gd Hq O O O) O (JLh (E7 s.Columns) (Gi J6 O O O) O (JLh (.fn 63 [.dptr [G0 bay],.dptr [G0 row],.dptr [BL deck]]) (Yv (cs:=[.dptr [G0 bay],.dptr [G0 row],.dptr [BL deck]]) O O) O ?_)))
 obtain⟨r3,hr3,h⟩:=Gg h
 refine JLh (E0 r3) (Gw O (G14 s.Columns (fun z0=>G61 z0 bay row deck) 63 [.dptr [G0 bay],.dptr [G0 row],.dptr [BL deck]] J79 O (fun z0 q hq=>Hbe z0 bay row deck q hq) r3 hr3) Hda ⟨O,O,O,O,G⟩) O (Rq (E0 r3) O (G7 (hK2 (Js fun hK4=>Jr fun hK5=>(Rq (E0 r3) O (JLl Gj O O O fun hm16=>(JLh (BL (decide ((r3.length:Int)=0))) (Qc O O O) O (G7 (hK5 (JCc O h (fun h hb=>?_) (fun h hb=>?_)))))))))))
 ·
  refine Jr fun hK6=>(Rq (G0 0) O (Rq (BL false) O (G7 (hK6 (Gt (⟨[G0 0,BL false],[],G,O,⟨⟨_,O,.conv (.same O)⟩,⟨_,O,.conv (.same O)⟩,G⟩,O,congrArg (fun r:Int×Bool=>(.tup [G0 r.1,BL r.2]:AV)) (Option.some.inj h)⟩))))))
 ·
  refine Gp (hK4 (Jr fun hK7=>(Rq (E0 r3) O ?_)))
  obtain⟨m9,y8,hm9,hy8,h⟩:=Z0 h
  refine JLh (.dptr [G0 y8]) (He (f:=G0) (xs:=r3) (y:=y8) O O O Gj hy8 hm9) O (JLh (G0 y8) (Gi Ge O O O) O (Rq (G0 y8) O (Rq (BL true) O (G7 (hK7 (Gt (⟨[G0 y8,BL true],[],G,O,⟨⟨_,O,.conv (.same O)⟩,⟨_,O,.conv (.same O)⟩,G⟩,O,congrArg (fun r:Int×Bool=>(.tup [G0 r.1,BL r.2]:AV)) (Option.some.inj h)⟩)))))))

def Qy (l:List H2) (covers:Int):Option Gu:=
 bnd (Gfa (min (l.length:Int) 12) l.length) fun m5=>
 each (fun y106 i106 (s106:(List G9)×Int×Int×Int×Int×(List Row)×(List Frame)×(List Gh)×Int×Int×Int×Int×(List G3)) nx106=>
  jp (fun kj109=>
   G15 (y106.Bay) fun v112=>
   bnd (H62 v112 5) fun v113=>
   G15 (y106.Row) fun v114=>
   bnd (H62 v114 5) fun v115=>
   G15 (y106.Tiers) fun v116=>
   bnd (H62 v116 4) fun v117=>
   G15 (2+v117) fun v118=>
   G15 (13000*v113) fun v120=>
   G15 (v120 - 26000) fun v121=>
   G15 (2500*v115) fun v122=>
   G15 (v122 - 5000) fun v123=>
   jp (fun kj124=>
    bif y106.Deck then
    (kj124 20000)
    else
    (kj124 2000)) fun(j124:Int)=>
   bnd (G6c (Gu.mk s106.2.2.2.2.2.2.2.2.2.2.2.2 s106.1 (Light.mk s106.2.1 s106.2.2.1 s106.2.2.2.1 s106.2.2.2.2.1) s106.2.2.2.2.2.1 s106.2.2.2.2.2.2.1 s106.2.2.2.2.2.2.2.1 (G2.mk s106.2.2.2.2.2.2.2.2.1 s106.2.2.2.2.2.2.2.2.2.1 s106.2.2.2.2.2.2.2.2.2.2.1 s106.2.2.2.2.2.2.2.2.2.2.2.1)) v113 v115 y106.Deck) fun r127=>
   bif (!r127.2) then
   (need (decide ((s106.2.2.2.2.2.2.2.2.2.2.2.2.length+[(G3.mk v113 v115 y106.Deck v118 0 500000000 500000000 0 [] v121 v123 j124)].length)*112≤140737488355328∧s106.2.2.2.2.2.2.2.2.2.2.2.2.length+[(G3.mk v113 v115 y106.Deck v118 0 500000000 500000000 0 [] v121 v123 j124)].length≤maxLen)) <|
    kj109 (s106.2.2.2.2.2.2.2.2.2.2.2.2++[(G3.mk v113 v115 y106.Deck v118 0 500000000 500000000 0 [] v121 v123 j124)]))
   else
   (kj109 s106.2.2.2.2.2.2.2.2.2.2.2.2)) fun(j109:(List G3))=>
  nx106 (s106.1,s106.2.1,s106.2.2.1,s106.2.2.2.1,s106.2.2.2.2.1,s106.2.2.2.2.2.1,s106.2.2.2.2.2.2.1,s106.2.2.2.2.2.2.2.1,s106.2.2.2.2.2.2.2.2.1,s106.2.2.2.2.2.2.2.2.2.1,s106.2.2.2.2.2.2.2.2.2.2.1,s106.2.2.2.2.2.2.2.2.2.2.2.1,j109))
 (fun(s106:(List G9)×Int×Int×Int×Int×(List Row)×(List Frame)×(List Gh)×Int×Int×Int×Int×(List G3))=>
  jp (fun kj130=>
   bif decide ((s106.2.2.2.2.2.2.2.2.2.2.2.2.length:Int)=0) then
   (kj130 ([(G3.mk 0 0 false 3 0 500000000 500000000 0 [] 0 0 2000)]))
   else
   (kj130 s106.2.2.2.2.2.2.2.2.2.2.2.2)) fun(j130:(List G3))=>
  need (decide (5≤9223372036854775807)) <|
  upto (fun i200 (s200:(List G9)×Int×Int×Int×Int×(List Row)×(List Frame)×(List Gh)×Int×Int×Int×Int) nx200=>
   jp (fun kj203=>
    jp (fun kj204=>
     G15 (2*(i200:Int)) fun v206=>
     bnd (Gfa v206 4294967295) fun m207=>
     bif decide ((H70 .u32 (Gb7 .u32 covers m207) 1)=1) then
     (need (decide ((s200.1.length+[(G9.mk (i200:Int) [0,1])].length)*32≤140737488355328∧s200.1.length+[(G9.mk (i200:Int) [0,1])].length≤maxLen)) <|
      kj204 (s200.1++[(G9.mk (i200:Int) [0,1])]))
     else
     (kj204 s200.1)) fun(j204:(List G9))=>
    G15 (2*(i200:Int)) fun v210=>
    G15 (v210+1) fun v211=>
    bnd (Gfa v211 4294967295) fun m212=>
    bif decide ((H70 .u32 (Gb7 .u32 covers m212) 1)=1) then
    (need (decide ((j204.length+[(G9.mk (i200:Int) [2,3,4])].length)*32≤140737488355328∧j204.length+[(G9.mk (i200:Int) [2,3,4])].length≤maxLen)) <|
     kj203 (j204++[(G9.mk (i200:Int) [2,3,4])]))
    else
    (kj203 j204)) fun(j203:(List G9))=>
   nx200 (j203,s200.2.1,s200.2.2.1,s200.2.2.2.1,s200.2.2.2.2.1,s200.2.2.2.2.2.1,s200.2.2.2.2.2.2.1,s200.2.2.2.2.2.2.2.1,s200.2.2.2.2.2.2.2.2.1,s200.2.2.2.2.2.2.2.2.2.1,s200.2.2.2.2.2.2.2.2.2.2.1,s200.2.2.2.2.2.2.2.2.2.2.2))
  (fun(s200:(List G9)×Int×Int×Int×Int×(List Row)×(List Frame)×(List Gh)×Int×Int×Int×Int)=>
   some (Gu.mk j130 s200.1 (Light.mk s200.2.1 s200.2.2.1 s200.2.2.2.1 s200.2.2.2.2.1) s200.2.2.2.2.2.1 s200.2.2.2.2.2.2.1 s200.2.2.2.2.2.2.2.1 (G2.mk s200.2.2.2.2.2.2.2.2.1 s200.2.2.2.2.2.2.2.2.2.1 s200.2.2.2.2.2.2.2.2.2.2.1 s200.2.2.2.2.2.2.2.2.2.2.2))) (5:Int).toNat 0 (s106.1,s106.2.1,s106.2.2.1,s106.2.2.2.1,s106.2.2.2.2.1,s106.2.2.2.2.2.1,s106.2.2.2.2.2.2.1,s106.2.2.2.2.2.2.2.1,s106.2.2.2.2.2.2.2.2.1,s106.2.2.2.2.2.2.2.2.2.1,s106.2.2.2.2.2.2.2.2.2.2.1,s106.2.2.2.2.2.2.2.2.2.2.2.1)) (l.take m5) 0 ([],0,0,0,0,[],[],[],0,0,0,0,[])
theorem Gba (l:List H2) (covers:Int) (r:Gu) (h:Qy l covers=some r):Q1 Ek 11 [Eb l,.sc (.int .u32 covers)] [] (fun av L'=>∃ p:Nat,av=.agg [.vec 1030 p 12 r.Columns.length,E3 r.Covers,G0 r.Light.Kilos,G0 r.Light.X,G0 r.Light.Y,G0 r.Light.Z,E4 r.Rows,E5 r.Frames,E6 r.Tanks,G0 r.G2.Tolerance,G0 r.G2.Trim,G0 r.G2.List_,G0 r.G2.Stability]∧L'=[(1030,.vec 57 12 p (r.Columns.map G3.av))]):=by
 unfold Qy at h
 refine G07 [] [.cell 4 36] Tryz.func11 O O (Ha9 O) (Jr fun hK1=>(JLh (.ptr 1026 0) (Ga4 1026 [E7 ([]:List G3),E3 ([]:List G9),G0 0,G0 0,G0 0,G0 0,E4 ([]:List Row),E5 ([]:List Frame),E6 ([]:List Gh),G0 0,G0 0,G0 0,G0 0] [.slice none 0 0,.slice none 0 0,.int .i64 0,.int .i64 0,.int .i64 0,.int .i64 0,.slice none 0 0,.slice none 0 0,.slice none 0 0,.int .i64 0,.int .i64 0,.int .i64 0,.int .i64 0] G8a ⟨.inr ⟨_,O,O⟩,.inr ⟨_,O,O⟩,.inl O,.inl O,.inl O,.inl O,.inr ⟨_,O,O⟩,.inr ⟨_,O,O⟩,.inr ⟨_,O,O⟩,.inl O,.inl O,.inl O,.inl O,G⟩ O O) O (G7 (hK1 ?_))))
 refine Jr fun hK2=>(JLh (.ptr 1027 0) (Ga4 1027 [.sc (.slice none 0 0),.sc (.slice none 0 0),G0 0,G0 0,G0 0,G0 0,E4 ([]:List Row),E5 ([]:List Frame),E6 ([]:List Gh),G0 0,G0 0,G0 0,G0 0] [.slice none 0 0,.slice none 0 0,.int .i64 0,.int .i64 0,.int .i64 0,.int .i64 0,.slice none 0 0,.slice none 0 0,.slice none 0 0,.int .i64 0,.int .i64 0,.int .i64 0,.int .i64 0] G8a ⟨.inl O,.inl O,.inl O,.inl O,.inl O,.inl O,.inr ⟨_,O,O⟩,.inr ⟨_,O,O⟩,.inr ⟨_,O,O⟩,.inl O,.inl O,.inl O,.inl O,G⟩ O O) O ?_)
 refine J95 1027 0 1030 57 12 O O O (cs':=[.vec 1030 (([]:List G3).length) 12 (([]:List G3).length),.sc (.slice none 0 0),G0 0,G0 0,G0 0,G0 0,E4 ([]:List Row),E5 ([]:List Frame),E6 ([]:List Gh),G0 0,G0 0,G0 0,G0 0]) O (J1a 1027 1 1031 94 2 O O O (cs':=[.vec 1030 (([]:List G3).length) 12 (([]:List G3).length),OW 1031 2 G9.av ([]:List G9),G0 0,G0 0,G0 0,G0 0,E4 ([]:List Row),E5 ([]:List Frame),E6 ([]:List Gh),G0 0,G0 0,G0 0,G0 0]) O (G7 (hK2 (Js fun hK3=>Jr fun hK4=>(Rq (Eb l) O (Rq (Eb l) O (JLl Gaa O O O fun hm14=>(JLh (G0 (min (l.length:Int) 12)) (A_min O O O) O ?_))))))))
 obtain⟨m5,hm5,h⟩:=Gg h
 refine JLh (Eb (l.take m5)) (H4f (f:=H2.av) (xs:=l) O O O Gaa (G4d hm5)) O (JLl Gaa O O O fun hm17=>(Rq (G0 0) O (G7 (hK4 (Gv ?_)))))
 obtain⟨b106,kx106,hb106,hkx106,h⟩:=Ja h
 refine Hr (fun i106 (s106:(List G9)×Int×Int×Int×Int×(List Row)×(List Frame)×(List Gh)×Int×Int×Int×Int×(List G3))=>each b106 kx106 (List.drop i106 (l.take m5)) i106 s106=some r) (fun i106 s106=>[(1,.sc (.int .u32 covers)),(4,.ptr 1026 0),(5,.ptr 1027 0),(16,Eb (l.take m5)),(17,G0 ((l.take m5).length:Int)),(18,Ej i106)]) (fun i106 s106=>[(1030,.vec 57 12 s106.2.2.2.2.2.2.2.2.2.2.2.2.length (s106.2.2.2.2.2.2.2.2.2.2.2.2.map G3.av)),(1031,.spare 94 2 s106.1.length s106.1.length),(1026,.box 36 [E7 ([]:List G3),E3 ([]:List G9),G0 0,G0 0,G0 0,G0 0,E4 ([]:List Row),E5 ([]:List Frame),E6 ([]:List Gh),G0 0,G0 0,G0 0,G0 0]),(1027,.box 36 [.vec 1030 s106.2.2.2.2.2.2.2.2.2.2.2.2.length 12 s106.2.2.2.2.2.2.2.2.2.2.2.2.length,OW 1031 2 G9.av s106.1,G0 s106.2.1,G0 s106.2.2.1,G0 s106.2.2.2.1,G0 s106.2.2.2.2.1,E4 s106.2.2.2.2.2.1,E5 s106.2.2.2.2.2.2.1,E6 s106.2.2.2.2.2.2.2.1,G0 s106.2.2.2.2.2.2.2.2.1,G0 s106.2.2.2.2.2.2.2.2.2.1,G0 s106.2.2.2.2.2.2.2.2.2.2.1,G0 s106.2.2.2.2.2.2.2.2.2.2.2.1])]) (fun i106=>(l.take m5).length - i106) 0 ([],0,0,0,0,[],[],[],0,0,0,0,[]) h ⟨(by repeat' constructor),⟨⟨_,rfl,.vec⟩,⟨_,rfl,.same⟩,⟨_,rfl,.boxL rfl (by repeat' constructor)⟩,⟨_,rfl,.boxL rfl (by repeat' constructor)⟩,G⟩,rfl⟩ ?_
 clear h
 intro i106 s106 hi106 K106 e106
 refine Jr fun hK107=>(JLh (BL (decide ((i106:Int) < ((l.take m5).length:Int)))) (Jc O O O) O (G7 (hK107 (Js fun hK108=>Gm O (fun hb=>?_) (fun hb=>?_)))))
 ·
  have hk106:=Jz hb
  obtain⟨y106,nx106,hy106,hn106,h⟩:=Hu hi106 hk106
  replace h:=Zr hb106 h
  refine Gp (hK108 ?_)
  obtain⟨kj109,hkj109,h⟩:=Yo h
  refine Rb (fun j109:(List G3)=>kj109 j109=some r) (fun j109=>[(1,.sc (.int .u32 covers)),(4,.ptr 1026 0),(5,.ptr 1027 0),(16,Eb (l.take m5)),(17,G0 ((l.take m5).length:Int)),(18,Ej i106)]) (fun j109=>[(1030,.vec 57 12 j109.length (j109.map G3.av)),(1031,.spare 94 2 s106.1.length s106.1.length),(1026,.box 36 [E7 ([]:List G3),E3 ([]:List G9),G0 0,G0 0,G0 0,G0 0,E4 ([]:List Row),E5 ([]:List Frame),E6 ([]:List Gh),G0 0,G0 0,G0 0,G0 0]),(1027,.box 36 [.vec 1030 j109.length 12 j109.length,OW 1031 2 G9.av s106.1,G0 s106.2.1,G0 s106.2.2.1,G0 s106.2.2.2.1,G0 s106.2.2.2.2.1,E4 s106.2.2.2.2.2.1,E5 s106.2.2.2.2.2.2.1,E6 s106.2.2.2.2.2.2.2.1,G0 s106.2.2.2.2.2.2.2.2.1,G0 s106.2.2.2.2.2.2.2.2.2.1,G0 s106.2.2.2.2.2.2.2.2.2.2.1,G0 s106.2.2.2.2.2.2.2.2.2.2.2.1])]) (fun Kj109 ej109=>?_) ?_
  ·
   refine Gv (Jr fun hK110=>(JLh (.dptr (H2.cs y106)) (He (f:=H2.av) (xs:=(l.take m5)) (y:=y106) O O O Gaa hy106 O) O (JLh (.agg (H2.cs y106)) (Gk tf_agg_90 O O O) O (JLh (.ptr 1028 0) (Jb 1028 4 J47 O O) O (J8 (u:=.junk) (Ht (u:=.agg (H2.cs y106)) (ds:=[U8 y106.Bay,U8 y106.Row,U8 y106.Tiers,BL y106.Deck]) J62 O O O O O O O O) (G7 (hK110 ?_)))))))
   refine Gs [(1,.sc (.int .u32 covers)),(4,.ptr 1026 0),(5,.ptr 1027 0),(7,.dptr (H2.cs y106)),(16,Eb (l.take m5)),(17,G0 ((l.take m5).length:Int)),(18,Ej i106)] [(1030,.vec 57 12 s106.2.2.2.2.2.2.2.2.2.2.2.2.length (s106.2.2.2.2.2.2.2.2.2.2.2.2.map G3.av)),(1031,.spare 94 2 s106.1.length s106.1.length),(1026,.box 36 [E7 ([]:List G3),E3 ([]:List G9),G0 0,G0 0,G0 0,G0 0,E4 ([]:List Row),E5 ([]:List Frame),E6 ([]:List Gh),G0 0,G0 0,G0 0,G0 0]),(1027,.box 36 [.vec 1030 s106.2.2.2.2.2.2.2.2.2.2.2.2.length 12 s106.2.2.2.2.2.2.2.2.2.2.2.2.length,OW 1031 2 G9.av s106.1,G0 s106.2.1,G0 s106.2.2.1,G0 s106.2.2.2.1,G0 s106.2.2.2.2.1,E4 s106.2.2.2.2.2.1,E5 s106.2.2.2.2.2.2.1,E6 s106.2.2.2.2.2.2.2.1,G0 s106.2.2.2.2.2.2.2.2.1,G0 s106.2.2.2.2.2.2.2.2.2.1,G0 s106.2.2.2.2.2.2.2.2.2.2.1,G0 s106.2.2.2.2.2.2.2.2.2.2.2.1])] 1028 rfl rfl rfl ⟨⟨_,rfl,.vec⟩,⟨_,rfl,.same⟩,⟨_,rfl,.boxEq rfl rfl⟩,⟨_,rfl,.boxEq rfl rfl⟩,G⟩ rfl (by repeat' (first | exact .ptr | constructor)) ?_
   refine Jr fun hK111=>(JLh (.dptr (H2.cs y106)) (Gd J2e O O O) O (JLh (U8 y106.Bay) (Gi J5 O O O) O ?_))
   obtain⟨v112,hv112,h⟩:=Jj h
   refine JLh (G0 v112) (H50 G8b Gf1 hv112 O O) O ?_
   obtain⟨v113,hv113,h⟩:=Gg h
   refine JLh (G0 v113) (J59 (Zj hv113).1 (Zj hv113).2 O O O) O (JLh (.dptr ((H2.cs y106).drop 1)) (Gd J2d O O O) O (JLh (U8 y106.Row) (Gi J5 O O O) O ?_))
   obtain⟨v114,hv114,h⟩:=Jj h
   refine JLh (G0 v114) (H50 G8b Gf1 hv114 O O) O ?_
   obtain⟨v115,hv115,h⟩:=Gg h
   refine JLh (G0 v115) (J59 (Zj hv115).1 (Zj hv115).2 O O O) O (JLh (.dptr [BL y106.Deck]) (Gd J2b O O O) O (JLh (BL y106.Deck) (Gi Qn O O O) O (JLh (.dptr [U8 y106.Tiers,BL y106.Deck]) (Gd J2c O O O) O (JLh (U8 y106.Tiers) (Gi J5 O O O) O ?_))))
   obtain⟨v116,hv116,h⟩:=Jj h
   refine JLh (G0 v116) (H50 G8b Gf1 hv116 O O) O ?_
   obtain⟨v117,hv117,h⟩:=Gg h
   refine JLh (G0 v117) (J59 (Zj hv117).1 (Zj hv117).2 O O O) O ?_
   obtain⟨v118,hv118,h⟩:=Jj h
   refine JLh (G0 v118) (J0 hv118 O O O) O (JLh (.agg [G0 v113,G0 v115,BL y106.Deck,G0 v118,G0 0,G0 500000000,G0 500000000,G0 0,E0 ([]:List Int),G0 0,G0 0,G0 0]) (Hp (cs:=[G0 v113,G0 v115,BL y106.Deck,G0 v118,G0 0,G0 500000000,G0 500000000,G0 0,E0 ([]:List Int),G0 0,G0 0,G0 0]) [(0,1),(1,1),(2,1),(3,1),(4,1),(5,1),(6,1),(7,1),(8,1),(9,1),(10,1),(11,1)] [G0 0,G0 0,BL false,G0 0,G0 0,G0 0,G0 0,G0 0,E0 ([]:List Int),G0 0,G0 0,G0 0] [.int .i64 0,.int .i64 0,.bool false,.int .i64 0,.int .i64 0,.int .i64 0,.int .i64 0,.int .i64 0,.slice none 0 0,.int .i64 0,.int .i64 0,.int .i64 0] Z9 G23 ⟨.inl O,.inl O,.inl O,.inl O,.inl O,.inl O,.inl O,.inl O,.inr ⟨_,O,O⟩,.inl O,.inl O,.inl O,G⟩ O O) O (JLh (.ptr 1029 0) (Jb 1029 12 Zu O O) O (J8 (u:=.junk) (Ht (u:=.agg [G0 v113,G0 v115,BL y106.Deck,G0 v118,G0 0,G0 500000000,G0 500000000,G0 0,E0 ([]:List Int),G0 0,G0 0,G0 0]) (ds:=[G0 v113,G0 v115,BL y106.Deck,G0 v118,G0 0,G0 500000000,G0 500000000,G0 0,E0 ([]:List Int),G0 0,G0 0,G0 0]) Gcf O O O O O O O O) (G7 (hK111 ?_)))))
   refine Jr fun hK119=>(JLh (.ptr 1029 0) (Q7 Zi O O) O (JLh (G0 v113) (Rc Ge O O O O) O ?_))
   obtain⟨v120,hv120,h⟩:=Jj h
   refine JLh (G0 v120) (J3a hv120 O O O) O ?_
   obtain⟨v121,hv121,h⟩:=Jj h
   refine JLh (G0 v121) (H36 hv121 O O O) O (JLh (.ptr 1029 1) (Q7 Zh O O) O (JLh (G0 v115) (Rc Ge O O O O) O ?_))
   obtain⟨v122,hv122,h⟩:=Jj h
   refine JLh (G0 v122) (J3a hv122 O O O) O ?_
   obtain⟨v123,hv123,h⟩:=Jj h
   refine JLh (G0 v123) (H36 hv123 O O O) O (JLh (.ptr 1029 9) (Q7 H2a O O) O (J8 (u:=.junk) (Ht (u:=G0 v121) (ds:=[G0 v113,G0 v115,BL y106.Deck,G0 v118,G0 0,G0 500000000,G0 500000000,G0 0,E0 ([]:List Int),G0 v121,G0 0,G0 0]) Gbe O O O O O O O O) (JLh (.ptr 1029 10) (Q7 Gf2 O O) O (J8 (u:=.junk) (Ht (u:=G0 v123) (ds:=[G0 v113,G0 v115,BL y106.Deck,G0 v118,G0 0,G0 500000000,G0 500000000,G0 0,E0 ([]:List Int),G0 v121,G0 v123,G0 0]) Gbe O O O O O O O O) (JLh (.ptr 1029 11) (Q7 G8c O O) O (J8 (u:=.junk) (Ht (u:=G0 2000) (ds:=[G0 v113,G0 v115,BL y106.Deck,G0 v118,G0 0,G0 500000000,G0 500000000,G0 0,E0 ([]:List Int),G0 v121,G0 v123,G0 2000]) Gbe O O O O O O O O) (G7 (hK119 ?_))))))))
   obtain⟨kj124,hkj124,h⟩:=Yo h
   refine Rb (fun j124:Int=>kj124 j124=some r) (fun j124=>[(1,.sc (.int .u32 covers)),(4,.ptr 1026 0),(5,.ptr 1027 0),(8,.ptr 1029 0),(16,Eb (l.take m5)),(17,G0 ((l.take m5).length:Int)),(18,Ej i106)]) (fun j124=>[(1030,.vec 57 12 s106.2.2.2.2.2.2.2.2.2.2.2.2.length (s106.2.2.2.2.2.2.2.2.2.2.2.2.map G3.av)),(1031,.spare 94 2 s106.1.length s106.1.length),(1026,.box 36 [E7 ([]:List G3),E3 ([]:List G9),G0 0,G0 0,G0 0,G0 0,E4 ([]:List Row),E5 ([]:List Frame),E6 ([]:List Gh),G0 0,G0 0,G0 0,G0 0]),(1027,.box 36 [.vec 1030 s106.2.2.2.2.2.2.2.2.2.2.2.2.length 12 s106.2.2.2.2.2.2.2.2.2.2.2.2.length,OW 1031 2 G9.av s106.1,G0 s106.2.1,G0 s106.2.2.1,G0 s106.2.2.2.1,G0 s106.2.2.2.2.1,E4 s106.2.2.2.2.2.1,E5 s106.2.2.2.2.2.2.1,E6 s106.2.2.2.2.2.2.2.1,G0 s106.2.2.2.2.2.2.2.2.1,G0 s106.2.2.2.2.2.2.2.2.2.1,G0 s106.2.2.2.2.2.2.2.2.2.2.1,G0 s106.2.2.2.2.2.2.2.2.2.2.2.1]),(1029,.box 57 [G0 v113,G0 v115,BL y106.Deck,G0 v118,G0 0,G0 500000000,G0 500000000,G0 0,E0 ([]:List Int),G0 v121,G0 v123,G0 j124])]) (fun Kj124 ej124=>?_) ?_
   ·
    refine Jr fun hK125=>(JLh (.ptr 1029 2) (Q7 Ym O O) O (JLh (BL y106.Deck) (Rc Qn O O O O) O (G7 (hK125 (JCc O h (fun h hb=>?_) (fun h hb=>?_))))))
    ·
     refine G4 (JLh (.ptr 1029 11) (Q7 G8c O O) O (J8 (u:=.junk) (Ht (u:=G0 20000) (ds:=[G0 v113,G0 v115,BL y106.Deck,G0 v118,G0 0,G0 500000000,G0 500000000,G0 0,E0 ([]:List Int),G0 v121,G0 v123,G0 20000]) Gbe O O O O O O O O) (G7 (ej124 _ _ 20000 h ⟨(by repeat' constructor),⟨⟨_,rfl,.vec⟩,⟨_,rfl,.same⟩,⟨_,rfl,.boxL rfl (by repeat' constructor)⟩,⟨_,rfl,.boxL rfl (by repeat' constructor)⟩,⟨_,rfl,.boxL rfl (by repeat' constructor)⟩,G⟩,rfl⟩))))
    ·
     refine Gp (ej124 _ _ 2000 h ⟨(by repeat' constructor),⟨⟨_,rfl,.vec⟩,⟨_,rfl,.same⟩,⟨_,rfl,.boxL rfl (by repeat' constructor)⟩,⟨_,rfl,.boxL rfl (by repeat' constructor)⟩,⟨_,rfl,.boxL rfl (by repeat' constructor)⟩,G⟩,rfl⟩)
   ·intro j124 h
    replace h:=app1 hkj124 h
    refine Jr fun hK126=>(JLh (.agg [.vec 1030 s106.2.2.2.2.2.2.2.2.2.2.2.2.length 12 s106.2.2.2.2.2.2.2.2.2.2.2.2.length,OW 1031 2 G9.av s106.1,G0 s106.2.1,G0 s106.2.2.1,G0 s106.2.2.2.1,G0 s106.2.2.2.2.1,E4 s106.2.2.2.2.2.1,E5 s106.2.2.2.2.2.2.1,E6 s106.2.2.2.2.2.2.2.1,G0 s106.2.2.2.2.2.2.2.2.1,G0 s106.2.2.2.2.2.2.2.2.2.1,G0 s106.2.2.2.2.2.2.2.2.2.2.1,G0 s106.2.2.2.2.2.2.2.2.2.2.2.1]) (Ge7 Hf O O O O) O (JLh (.ptr 1029 0) (Q7 Zi O O) O (JLh (G0 v113) (Rc Ge O O O O) O (JLh (.ptr 1029 1) (Q7 Zh O O) O (JLh (G0 v115) (Rc Ge O O O O) O (JLh (.ptr 1029 2) (Q7 Ym O O) O (JLh (BL y106.Deck) (Rc Qn O O O O) O ?_)))))))
    obtain⟨r127,hr127,h⟩:=Gg h
    refine JLh (.tup [G0 r127.1,BL r127.2]) (J9e (args:=[.agg [E7 s106.2.2.2.2.2.2.2.2.2.2.2.2,E3 s106.1,G0 s106.2.1,G0 s106.2.2.1,G0 s106.2.2.2.1,G0 s106.2.2.2.2.1,E4 s106.2.2.2.2.2.1,E5 s106.2.2.2.2.2.2.1,E6 s106.2.2.2.2.2.2.2.1,G0 s106.2.2.2.2.2.2.2.2.1,G0 s106.2.2.2.2.2.2.2.2.2.1,G0 s106.2.2.2.2.2.2.2.2.2.2.1,G0 s106.2.2.2.2.2.2.2.2.2.2.2.1],G0 v113,G0 v115,BL y106.Deck]) O (M_ship_Find_w (Gu.mk s106.2.2.2.2.2.2.2.2.2.2.2.2 s106.1 (Light.mk s106.2.1 s106.2.2.1 s106.2.2.2.1 s106.2.2.2.2.1) s106.2.2.2.2.2.1 s106.2.2.2.2.2.2.1 s106.2.2.2.2.2.2.2.1 (G2.mk s106.2.2.2.2.2.2.2.2.1 s106.2.2.2.2.2.2.2.2.2.1 s106.2.2.2.2.2.2.2.2.2.2.1 s106.2.2.2.2.2.2.2.2.2.2.2.1)) v113 v115 y106.Deck r127 hr127) J8b ⟨.aggL (cs:=[.vec 1030 s106.2.2.2.2.2.2.2.2.2.2.2.2.length 12 s106.2.2.2.2.2.2.2.2.2.2.2.2.length,OW 1031 2 G9.av s106.1,G0 s106.2.1,G0 s106.2.2.1,G0 s106.2.2.2.1,G0 s106.2.2.2.2.1,E4 s106.2.2.2.2.2.1,E5 s106.2.2.2.2.2.2.1,E6 s106.2.2.2.2.2.2.2.1,G0 s106.2.2.2.2.2.2.2.2.1,G0 s106.2.2.2.2.2.2.2.2.2.1,G0 s106.2.2.2.2.2.2.2.2.2.2.1,G0 s106.2.2.2.2.2.2.2.2.2.2.2.1]) (ds:=[E7 s106.2.2.2.2.2.2.2.2.2.2.2.2,E3 s106.1,G0 s106.2.1,G0 s106.2.2.1,G0 s106.2.2.2.1,G0 s106.2.2.2.2.1,E4 s106.2.2.2.2.2.1,E5 s106.2.2.2.2.2.2.1,E6 s106.2.2.2.2.2.2.2.1,G0 s106.2.2.2.2.2.2.2.2.1,G0 s106.2.2.2.2.2.2.2.2.2.1,G0 s106.2.2.2.2.2.2.2.2.2.2.1,G0 s106.2.2.2.2.2.2.2.2.2.2.2.1]) ⟨.vec O,.data O O,.data O O,.data O O,.data O O,.data O O,.data O O,.data O O,.data O O,.data O O,.data O O,.data O O,.data O O,G⟩,.data O O,.data O O,.data O O,G⟩ O) O (Rq (.tup [G0 r127.1,BL r127.2]) O (JLh (G0 r127.1) (Hb O O O) O (JLh (BL r127.2) (Hb O O O) O (Rq (G0 r127.1) O (Rq (BL r127.2) O (G7 (hK126 ?_)))))))
    refine Gs [(1,.sc (.int .u32 covers)),(4,.ptr 1026 0),(5,.ptr 1027 0),(8,.dptr [G0 v113,G0 v115,BL y106.Deck,G0 v118,G0 0,G0 500000000,G0 500000000,G0 0,E0 ([]:List Int),G0 v121,G0 v123,G0 j124]),(10,BL r127.2),(16,Eb (l.take m5)),(17,G0 ((l.take m5).length:Int)),(18,Ej i106)] [(1030,.vec 57 12 s106.2.2.2.2.2.2.2.2.2.2.2.2.length (s106.2.2.2.2.2.2.2.2.2.2.2.2.map G3.av)),(1031,.spare 94 2 s106.1.length s106.1.length),(1026,.box 36 [E7 ([]:List G3),E3 ([]:List G9),G0 0,G0 0,G0 0,G0 0,E4 ([]:List Row),E5 ([]:List Frame),E6 ([]:List Gh),G0 0,G0 0,G0 0,G0 0]),(1027,.box 36 [.vec 1030 s106.2.2.2.2.2.2.2.2.2.2.2.2.length 12 s106.2.2.2.2.2.2.2.2.2.2.2.2.length,OW 1031 2 G9.av s106.1,G0 s106.2.1,G0 s106.2.2.1,G0 s106.2.2.2.1,G0 s106.2.2.2.2.1,E4 s106.2.2.2.2.2.1,E5 s106.2.2.2.2.2.2.1,E6 s106.2.2.2.2.2.2.2.1,G0 s106.2.2.2.2.2.2.2.2.1,G0 s106.2.2.2.2.2.2.2.2.2.1,G0 s106.2.2.2.2.2.2.2.2.2.2.1,G0 s106.2.2.2.2.2.2.2.2.2.2.2.1])] 1029 rfl rfl rfl ⟨⟨_,rfl,.vec⟩,⟨_,rfl,.same⟩,⟨_,rfl,.boxEq rfl rfl⟩,⟨_,rfl,.boxEq rfl rfl⟩,G⟩ rfl (by repeat' (first | exact .ptr | constructor)) ?_
    refine Jr fun hK128=>(Rq (BL r127.2) O (JLh (BL (!r127.2)) (G06 (b:=r127.2) O O) O (G7 (hK128 (JCc O h (fun h hb=>?_) (fun h hb=>?_))))))
    ·
     refine G4 (JLh (.ptr 1027 0) (Q7 Hq O O) O (JLh (.vec 1030 s106.2.2.2.2.2.2.2.2.2.2.2.2.length 12 s106.2.2.2.2.2.2.2.2.2.2.2.2.length) (Rc J6 O O O O) O (JLh (.agg [G0 v113,G0 v115,BL y106.Deck,G0 v118,G0 0,G0 500000000,G0 500000000,G0 0,E0 ([]:List Int),G0 v121,G0 v123,G0 j124]) (Gk G29 O O O) O (JLh (E7 ([(G3.mk v113 v115 y106.Deck v118 0 500000000 500000000 0 [] v121 v123 j124)])) (H9 (xs:=[.agg [G0 v113,G0 v115,BL y106.Deck,G0 v118,G0 0,G0 500000000,G0 500000000,G0 0,E0 ([]:List Int),G0 v121,G0 v123,G0 j124]]) O ⟨O,O,G⟩ Hx Zu O O O O) O ?_))))
     obtain⟨ha129,h⟩:=Jm h
     refine JLh (.vec 1030 ((s106.2.2.2.2.2.2.2.2.2.2.2.2++[(G3.mk v113 v115 y106.Deck v118 0 500000000 500000000 0 [] v121 v123 j124)]).length) 12 ((s106.2.2.2.2.2.2.2.2.2.2.2.2++[(G3.mk v113 v115 y106.Deck v118 0 500000000 500000000 0 [] v121 v123 j124)]).length)) (G55 (f:=G3.av) (xs:=s106.2.2.2.2.2.2.2.2.2.2.2.2) (ys:=[(G3.mk v113 v115 y106.Deck v118 0 500000000 500000000 0 [] v121 v123 j124)]) (ver:=s106.2.2.2.2.2.2.2.2.2.2.2.2.length) (ver1:=(s106.2.2.2.2.2.2.2.2.2.2.2.2++[(G3.mk v113 v115 y106.Deck v118 0 500000000 500000000 0 [] v121 v123 j124)]).length) rfl rfl rfl rfl Hx J69 ha129 (fun _=>rfl) (.inl rfl) (by simp)) O (JLh (.ptr 1027 0) (Q7 Hq O O) O (J8 (u:=.junk) (Ht (u:=.vec 1030 ((s106.2.2.2.2.2.2.2.2.2.2.2.2++[(G3.mk v113 v115 y106.Deck v118 0 500000000 500000000 0 [] v121 v123 j124)]).length) 12 ((s106.2.2.2.2.2.2.2.2.2.2.2.2++[(G3.mk v113 v115 y106.Deck v118 0 500000000 500000000 0 [] v121 v123 j124)]).length)) (ds:=[.vec 1030 ((s106.2.2.2.2.2.2.2.2.2.2.2.2++[(G3.mk v113 v115 y106.Deck v118 0 500000000 500000000 0 [] v121 v123 j124)]).length) 12 ((s106.2.2.2.2.2.2.2.2.2.2.2.2++[(G3.mk v113 v115 y106.Deck v118 0 500000000 500000000 0 [] v121 v123 j124)]).length),OW 1031 2 G9.av s106.1,G0 s106.2.1,G0 s106.2.2.1,G0 s106.2.2.2.1,G0 s106.2.2.2.2.1,E4 s106.2.2.2.2.2.1,E5 s106.2.2.2.2.2.2.1,E6 s106.2.2.2.2.2.2.2.1,G0 s106.2.2.2.2.2.2.2.2.1,G0 s106.2.2.2.2.2.2.2.2.2.1,G0 s106.2.2.2.2.2.2.2.2.2.2.1,G0 s106.2.2.2.2.2.2.2.2.2.2.2.1]) Hcf O O O O O O O O) (G7 ?_)))
     exact ej109 _ _ (s106.2.2.2.2.2.2.2.2.2.2.2.2++[(G3.mk v113 v115 y106.Deck v118 0 500000000 500000000 0 [] v121 v123 j124)]) h ⟨(by repeat' constructor),⟨⟨_,rfl,.vec⟩,⟨_,rfl,.same⟩,⟨_,rfl,.boxL rfl (by repeat' constructor)⟩,⟨_,rfl,.boxL rfl (by repeat' constructor)⟩,G⟩,rfl⟩
    ·
     refine Gp (ej109 _ _ s106.2.2.2.2.2.2.2.2.2.2.2.2 h ⟨(by repeat' constructor),⟨⟨_,rfl,.vec⟩,⟨_,rfl,.same⟩,⟨_,rfl,.boxL rfl (by repeat' constructor)⟩,⟨_,rfl,.boxL rfl (by repeat' constructor)⟩,G⟩,rfl⟩)
  ·intro j109 h
   replace h:=app1 hkj109 h
   refine G4 (JLh (G0 ((i106+1:Nat):Int)) (J0 (Ho hk106 hm17) O O O) O (Rq (G0 ((i106+1:Nat):Int)) O (G7 (e106 _ _ (i106+1) (s106.1,s106.2.1,s106.2.2.1,s106.2.2.2.1,s106.2.2.2.2.1,s106.2.2.2.2.2.1,s106.2.2.2.2.2.2.1,s106.2.2.2.2.2.2.2.1,s106.2.2.2.2.2.2.2.2.1,s106.2.2.2.2.2.2.2.2.2.1,s106.2.2.2.2.2.2.2.2.2.2.1,s106.2.2.2.2.2.2.2.2.2.2.2.1,j109) (app1 hn106 h) (by omega) ⟨(by repeat' constructor),⟨⟨_,rfl,.vec⟩,⟨_,rfl,.same⟩,⟨_,rfl,.boxL rfl (by repeat' constructor)⟩,⟨_,rfl,.boxL rfl (by repeat' constructor)⟩,G⟩,rfl⟩))))
 ·
  have h:=app1 hkx106 (Hv hi106 (Hi hb))
  refine Hy (hK3 ?_)
  obtain⟨kj130,hkj130,h⟩:=Yo h
  refine Rb (fun j130:(List G3)=>kj130 j130=some r) (fun j130=>[(1,.sc (.int .u32 covers)),(4,.ptr 1026 0),(5,.ptr 1027 0)]) (fun j130=>[(1030,.vec 57 12 j130.length (j130.map G3.av)),(1031,.spare 94 2 s106.1.length s106.1.length),(1026,.box 36 [E7 ([]:List G3),E3 ([]:List G9),G0 0,G0 0,G0 0,G0 0,E4 ([]:List Row),E5 ([]:List Frame),E6 ([]:List Gh),G0 0,G0 0,G0 0,G0 0]),(1027,.box 36 [.vec 1030 j130.length 12 j130.length,OW 1031 2 G9.av s106.1,G0 s106.2.1,G0 s106.2.2.1,G0 s106.2.2.2.1,G0 s106.2.2.2.2.1,E4 s106.2.2.2.2.2.1,E5 s106.2.2.2.2.2.2.1,E6 s106.2.2.2.2.2.2.2.1,G0 s106.2.2.2.2.2.2.2.2.1,G0 s106.2.2.2.2.2.2.2.2.2.1,G0 s106.2.2.2.2.2.2.2.2.2.2.1,G0 s106.2.2.2.2.2.2.2.2.2.2.2.1])]) (fun Kj130 ej130=>?_) ?_
  ·
   refine Jr fun hK131=>(JLh (.ptr 1027 0) (Q7 Hq O O) O (JLh (.vec 1030 s106.2.2.2.2.2.2.2.2.2.2.2.2.length 12 s106.2.2.2.2.2.2.2.2.2.2.2.2.length) (Rc J6 O O O O) O (J51 (f:=G3.av) (xs:=s106.2.2.2.2.2.2.2.2.2.2.2.2) Hx O O O (fun hm74=>?_) O O O)))
   refine JLh (BL (decide ((s106.2.2.2.2.2.2.2.2.2.2.2.2.length:Int)=0))) (Qc O O O) O (G7 (hK131 (JCc O h (fun h hb=>?_) (fun h hb=>?_))))
   ·
    refine G4 ?_
    refine JLh (.agg [G0 0,G0 0,BL false,G0 3,G0 0,G0 500000000,G0 500000000,G0 0,E0 ([]:List Int),G0 0,G0 0,G0 2000]) (Hp (cs:=[G0 0,G0 0,BL false,G0 3,G0 0,G0 500000000,G0 500000000,G0 0,E0 ([]:List Int),G0 0,G0 0,G0 2000]) [(0,1),(1,1),(2,1),(3,1),(4,1),(5,1),(6,1),(7,1),(8,1),(9,1),(10,1),(11,1)] [G0 0,G0 0,BL false,G0 0,G0 0,G0 0,G0 0,G0 0,E0 ([]:List Int),G0 0,G0 0,G0 0] [.int .i64 0,.int .i64 0,.bool false,.int .i64 0,.int .i64 0,.int .i64 0,.int .i64 0,.int .i64 0,.slice none 0 0,.int .i64 0,.int .i64 0,.int .i64 0] Z9 G23 ⟨.inl O,.inl O,.inl O,.inl O,.inl O,.inl O,.inl O,.inl O,.inr ⟨_,O,O⟩,.inl O,.inl O,.inl O,G⟩ O O) O (JLh (.vec 1030 (([(G3.mk 0 0 false 3 0 500000000 500000000 0 [] 0 0 2000)]).length) 12 (([(G3.mk 0 0 false 3 0 500000000 500000000 0 [] 0 0 2000)]).length)) (A_litVecM 1030 (f:=G3.av) ([(G3.mk 0 0 false 3 0 500000000 500000000 0 [] 0 0 2000)]) (ver1:=([(G3.mk 0 0 false 3 0 500000000 500000000 0 [] 0 0 2000)]).length) rfl ⟨rfl,rfl,G⟩ Hx Zu rfl rfl rfl rfl rfl (by have hb_:=of_decide_eq_true hb; simp only [List.length_cons,List.length_nil]; omega)) O (JLh (.ptr 1027 0) (Q7 Hq O O) O (J8 (u:=.junk) (Ht (u:=.vec 1030 (([(G3.mk 0 0 false 3 0 500000000 500000000 0 [] 0 0 2000)]).length) 12 (([(G3.mk 0 0 false 3 0 500000000 500000000 0 [] 0 0 2000)]).length)) (ds:=[.vec 1030 (([(G3.mk 0 0 false 3 0 500000000 500000000 0 [] 0 0 2000)]).length) 12 (([(G3.mk 0 0 false 3 0 500000000 500000000 0 [] 0 0 2000)]).length),OW 1031 2 G9.av s106.1,G0 s106.2.1,G0 s106.2.2.1,G0 s106.2.2.2.1,G0 s106.2.2.2.2.1,E4 s106.2.2.2.2.2.1,E5 s106.2.2.2.2.2.2.1,E6 s106.2.2.2.2.2.2.2.1,G0 s106.2.2.2.2.2.2.2.2.1,G0 s106.2.2.2.2.2.2.2.2.2.1,G0 s106.2.2.2.2.2.2.2.2.2.2.1,G0 s106.2.2.2.2.2.2.2.2.2.2.2.1]) Hcf O O O O O O O O) (G7 ?_))))
    exact ej130 _ _ ([(G3.mk 0 0 false 3 0 500000000 500000000 0 [] 0 0 2000)]) h ⟨⟨.same rfl,.same rfl,.same rfl,G⟩,⟨⟨_,rfl,.vec⟩,⟨_,rfl,.same⟩,⟨_,rfl,.boxL rfl (by repeat' constructor)⟩,⟨_,rfl,.boxL rfl (by repeat' constructor)⟩,G⟩,rfl⟩
   ·
    refine Gp (ej130 _ _ s106.2.2.2.2.2.2.2.2.2.2.2.2 h ⟨⟨.same rfl,.same rfl,.same rfl,G⟩,⟨⟨_,rfl,.vec⟩,⟨_,rfl,.same⟩,⟨_,rfl,.boxL rfl (by repeat' constructor)⟩,⟨_,rfl,.boxL rfl (by repeat' constructor)⟩,G⟩,rfl⟩)
  ·intro j130 h
   replace h:=app1 hkj130 h
   refine Js fun hK132=>Jr fun hK133=>(Rq (G0 0) O (G7 (hK133 (Gv ?_))))
   obtain⟨hx200,h⟩:=Jm h
   obtain⟨b200,kx200,hb200,hkx200,h⟩:=upto_in h
   refine Hr (fun i200 (s200:(List G9)×Int×Int×Int×Int×(List Row)×(List Frame)×(List Gh)×Int×Int×Int×Int)=>upto b200 kx200 ((5:Int).toNat - i200) i200 s200=some r) (fun i200 s200=>[(1,.sc (.int .u32 covers)),(4,.ptr 1026 0),(5,.ptr 1027 0),(11,Ej i200)]) (fun i200 s200=>[(1030,.vec 57 12 j130.length (j130.map G3.av)),(1031,.spare 94 2 s200.1.length s200.1.length),(1026,.box 36 [E7 ([]:List G3),E3 ([]:List G9),G0 0,G0 0,G0 0,G0 0,E4 ([]:List Row),E5 ([]:List Frame),E6 ([]:List Gh),G0 0,G0 0,G0 0,G0 0]),(1027,.box 36 [.vec 1030 j130.length 12 j130.length,OW 1031 2 G9.av s200.1,G0 s200.2.1,G0 s200.2.2.1,G0 s200.2.2.2.1,G0 s200.2.2.2.2.1,E4 s200.2.2.2.2.2.1,E5 s200.2.2.2.2.2.2.1,E6 s200.2.2.2.2.2.2.2.1,G0 s200.2.2.2.2.2.2.2.2.1,G0 s200.2.2.2.2.2.2.2.2.2.1,G0 s200.2.2.2.2.2.2.2.2.2.2.1,G0 s200.2.2.2.2.2.2.2.2.2.2.2])]) (fun i200=>(5:Int).toNat - i200) 0 (s106.1,s106.2.1,s106.2.2.1,s106.2.2.2.1,s106.2.2.2.2.1,s106.2.2.2.2.2.1,s106.2.2.2.2.2.2.1,s106.2.2.2.2.2.2.2.1,s106.2.2.2.2.2.2.2.2.1,s106.2.2.2.2.2.2.2.2.2.1,s106.2.2.2.2.2.2.2.2.2.2.1,s106.2.2.2.2.2.2.2.2.2.2.2.1) h ⟨(by repeat' constructor),⟨⟨_,rfl,.vec⟩,⟨_,rfl,.same⟩,⟨_,rfl,.boxL rfl (by repeat' constructor)⟩,⟨_,rfl,.boxL rfl (by repeat' constructor)⟩,G⟩,rfl⟩ ?_
   clear h
   intro i200 s200 hi200 K200 e200
   refine Js fun hK201=>Jr fun hK202=>(Rq (Ej i200) O (JLh (BL (decide ((i200:Int) < 5))) (Jc O O O) O (G7 (hK202 (Gm O (fun hb=>?_) (fun hb=>?_))))))
   ·
    have hk200:=Hfe hb
    obtain⟨nx200,hn200,h⟩:=Hca hi200 hk200
    replace h:=app3 hb200 h
    refine Gp (hK201 ?_)
    obtain⟨kj203,hkj203,h⟩:=Yo h
    refine Rb (fun j203:(List G9)=>kj203 j203=some r) (fun j203=>[(1,.sc (.int .u32 covers)),(4,.ptr 1026 0),(5,.ptr 1027 0),(11,Ej i200)]) (fun j203=>[(1030,.vec 57 12 j130.length (j130.map G3.av)),(1031,.spare 94 2 j203.length j203.length),(1026,.box 36 [E7 ([]:List G3),E3 ([]:List G9),G0 0,G0 0,G0 0,G0 0,E4 ([]:List Row),E5 ([]:List Frame),E6 ([]:List Gh),G0 0,G0 0,G0 0,G0 0]),(1027,.box 36 [.vec 1030 j130.length 12 j130.length,OW 1031 2 G9.av j203,G0 s200.2.1,G0 s200.2.2.1,G0 s200.2.2.2.1,G0 s200.2.2.2.2.1,E4 s200.2.2.2.2.2.1,E5 s200.2.2.2.2.2.2.1,E6 s200.2.2.2.2.2.2.2.1,G0 s200.2.2.2.2.2.2.2.2.1,G0 s200.2.2.2.2.2.2.2.2.2.1,G0 s200.2.2.2.2.2.2.2.2.2.2.1,G0 s200.2.2.2.2.2.2.2.2.2.2.2])]) (fun Kj203 ej203=>?_) ?_
    ·
     refine Gv ?_
     obtain⟨kj204,hkj204,h⟩:=Yo h
     refine Rb (fun j204:(List G9)=>kj204 j204=some r) (fun j204=>[(1,.sc (.int .u32 covers)),(4,.ptr 1026 0),(5,.ptr 1027 0),(11,Ej i200)]) (fun j204=>[(1030,.vec 57 12 j130.length (j130.map G3.av)),(1031,.spare 94 2 j204.length j204.length),(1026,.box 36 [E7 ([]:List G3),E3 ([]:List G9),G0 0,G0 0,G0 0,G0 0,E4 ([]:List Row),E5 ([]:List Frame),E6 ([]:List Gh),G0 0,G0 0,G0 0,G0 0]),(1027,.box 36 [.vec 1030 j130.length 12 j130.length,OW 1031 2 G9.av j204,G0 s200.2.1,G0 s200.2.2.1,G0 s200.2.2.2.1,G0 s200.2.2.2.2.1,E4 s200.2.2.2.2.2.1,E5 s200.2.2.2.2.2.2.1,E6 s200.2.2.2.2.2.2.2.1,G0 s200.2.2.2.2.2.2.2.2.1,G0 s200.2.2.2.2.2.2.2.2.2.1,G0 s200.2.2.2.2.2.2.2.2.2.2.1,G0 s200.2.2.2.2.2.2.2.2.2.2.2])]) (fun Kj204 ej204=>?_) ?_
     ·
      refine Jr fun hK205=>(Rq (.sc (.int .u32 covers)) O (Rq (Ej i200) O ?_))
      obtain⟨v206,hv206,h⟩:=Jj h
      refine JLh (G0 v206) (J3a hv206 O O O) O ?_
      obtain⟨m207,hm207,h⟩:=Gg h
      refine JLh (.sc (.int .u32 (Gb7 .u32 covers m207))) (J20 (s:=m207) (G4d hm207).1 O O O) O (JLh (.sc (.int .u32 (H70 .u32 (Gb7 .u32 covers m207) 1))) (J46 O O O) O (JLh (BL (decide ((H70 .u32 (Gb7 .u32 covers m207) 1)=1))) (Qc O O O) O (G7 (hK205 (JCc O h (fun h hb=>?_) (fun h hb=>?_))))))
      ·
       refine G4 (JLh (.ptr 1027 1) (Q7 Jt O O) O (JLh (OW 1031 2 G9.av s200.1) (Rc Qw O O O O) O (Rq (Ej i200) O (JLh (E0 [0,1]) (H9 (xs:=[G0 0,G0 1]) O ⟨O,O,O,O,G⟩ Gj Qd O O O O) O (JLh (.agg [Ej i200,E0 [0,1]]) (Hp (cs:=[Ej i200,E0 [0,1]]) [(0,1),(1,1)] [G0 0,E0 ([]:List Int)] [.int .i64 0,.slice none 0 0] Gd3 H38 ⟨.inl O,.inr ⟨_,O,O⟩,G⟩ O O) O (JLh (E3 ([(G9.mk (i200:Int) [0,1])])) (H9 (xs:=[.agg [Ej i200,E0 [0,1]]]) O ⟨O,O,G⟩ Jw G63 O O O O) O ?_))))))
       obtain⟨ha208,h⟩:=Jm h
       refine JLh (OW 1031 2 G9.av (s200.1++[(G9.mk (i200:Int) [0,1])])) (Yb (f:=G9.av) (xs:=s200.1) (ys:=[(G9.mk (i200:Int) [0,1])]) O O O O Jw Hd5 ha208 (fun _=>O) (.inl O) O) O (JLh (.ptr 1027 1) (Q7 Jt O O) O (J8 (u:=.junk) (Ht (u:=OW 1031 2 G9.av (s200.1++[(G9.mk (i200:Int) [0,1])])) (ds:=[.vec 1030 j130.length 12 j130.length,OW 1031 2 G9.av (s200.1++[(G9.mk (i200:Int) [0,1])]),G0 s200.2.1,G0 s200.2.2.1,G0 s200.2.2.2.1,G0 s200.2.2.2.2.1,E4 s200.2.2.2.2.2.1,E5 s200.2.2.2.2.2.2.1,E6 s200.2.2.2.2.2.2.2.1,G0 s200.2.2.2.2.2.2.2.2.1,G0 s200.2.2.2.2.2.2.2.2.2.1,G0 s200.2.2.2.2.2.2.2.2.2.2.1,G0 s200.2.2.2.2.2.2.2.2.2.2.2]) Hce O O O O O O O O) (G7 ?_)))
       exact ej204 _ _ (s200.1++[(G9.mk (i200:Int) [0,1])]) h ⟨(by repeat' constructor),⟨⟨_,rfl,.vec⟩,⟨_,rfl,.same⟩,⟨_,rfl,.boxL rfl (by repeat' constructor)⟩,⟨_,rfl,.boxL rfl (by repeat' constructor)⟩,G⟩,rfl⟩
      ·
       refine Gp (ej204 _ _ s200.1 h ⟨(by repeat' constructor),⟨⟨_,rfl,.vec⟩,⟨_,rfl,.same⟩,⟨_,rfl,.boxL rfl (by repeat' constructor)⟩,⟨_,rfl,.boxL rfl (by repeat' constructor)⟩,G⟩,rfl⟩)
     ·intro j204 h
      replace h:=app1 hkj204 h
      refine Jr fun hK209=>(Rq (.sc (.int .u32 covers)) O (Rq (Ej i200) O ?_))
      obtain⟨v210,hv210,h⟩:=Jj h
      refine JLh (G0 v210) (J3a hv210 O O O) O ?_
      obtain⟨v211,hv211,h⟩:=Jj h
      refine JLh (G0 v211) (J0 hv211 O O O) O ?_
      obtain⟨m212,hm212,h⟩:=Gg h
      refine JLh (.sc (.int .u32 (Gb7 .u32 covers m212))) (J20 (s:=m212) (G4d hm212).1 O O O) O (JLh (.sc (.int .u32 (H70 .u32 (Gb7 .u32 covers m212) 1))) (J46 O O O) O (JLh (BL (decide ((H70 .u32 (Gb7 .u32 covers m212) 1)=1))) (Qc O O O) O (G7 (hK209 (JCc O h (fun h hb=>?_) (fun h hb=>?_))))))
      ·
       refine G4 (JLh (.ptr 1027 1) (Q7 Jt O O) O (JLh (OW 1031 2 G9.av j204) (Rc Qw O O O O) O (Rq (Ej i200) O (JLh (E0 [2,3,4]) (H9 (xs:=[G0 2,G0 3,G0 4]) O ⟨O,O,O,O,O,O,G⟩ Gj Qd O O O O) O (JLh (.agg [Ej i200,E0 [2,3,4]]) (Hp (cs:=[Ej i200,E0 [2,3,4]]) [(0,1),(1,1)] [G0 0,E0 ([]:List Int)] [.int .i64 0,.slice none 0 0] Gd3 H38 ⟨.inl O,.inr ⟨_,O,O⟩,G⟩ O O) O (JLh (E3 ([(G9.mk (i200:Int) [2,3,4])])) (H9 (xs:=[.agg [Ej i200,E0 [2,3,4]]]) O ⟨O,O,G⟩ Jw G63 O O O O) O ?_))))))
       obtain⟨ha213,h⟩:=Jm h
       refine JLh (OW 1031 2 G9.av (j204++[(G9.mk (i200:Int) [2,3,4])])) (Yb (f:=G9.av) (xs:=j204) (ys:=[(G9.mk (i200:Int) [2,3,4])]) O O O O Jw Hd5 ha213 (fun _=>O) (.inl O) O) O (JLh (.ptr 1027 1) (Q7 Jt O O) O (J8 (u:=.junk) (Ht (u:=OW 1031 2 G9.av (j204++[(G9.mk (i200:Int) [2,3,4])])) (ds:=[.vec 1030 j130.length 12 j130.length,OW 1031 2 G9.av (j204++[(G9.mk (i200:Int) [2,3,4])]),G0 s200.2.1,G0 s200.2.2.1,G0 s200.2.2.2.1,G0 s200.2.2.2.2.1,E4 s200.2.2.2.2.2.1,E5 s200.2.2.2.2.2.2.1,E6 s200.2.2.2.2.2.2.2.1,G0 s200.2.2.2.2.2.2.2.2.1,G0 s200.2.2.2.2.2.2.2.2.2.1,G0 s200.2.2.2.2.2.2.2.2.2.2.1,G0 s200.2.2.2.2.2.2.2.2.2.2.2]) Hce O O O O O O O O) (G7 ?_)))
       exact ej203 _ _ (j204++[(G9.mk (i200:Int) [2,3,4])]) h ⟨(by repeat' constructor),⟨⟨_,rfl,.vec⟩,⟨_,rfl,.same⟩,⟨_,rfl,.boxL rfl (by repeat' constructor)⟩,⟨_,rfl,.boxL rfl (by repeat' constructor)⟩,G⟩,rfl⟩
      ·
       refine Gp (ej203 _ _ j204 h ⟨(by repeat' constructor),⟨⟨_,rfl,.vec⟩,⟨_,rfl,.same⟩,⟨_,rfl,.boxL rfl (by repeat' constructor)⟩,⟨_,rfl,.boxL rfl (by repeat' constructor)⟩,G⟩,rfl⟩)
    ·intro j203 h
     replace h:=app1 hkj203 h
     refine G4 (Rq (Ej i200) O (JLh (G0 ((i200+1:Nat):Int)) (J0 (Ho hk200 (H7c hx200)) O O O) O (Rq (G0 ((i200+1:Nat):Int)) O (G7 (e200 _ _ (i200+1) (j203,s200.2.1,s200.2.2.1,s200.2.2.2.1,s200.2.2.2.2.1,s200.2.2.2.2.2.1,s200.2.2.2.2.2.2.1,s200.2.2.2.2.2.2.2.1,s200.2.2.2.2.2.2.2.2.1,s200.2.2.2.2.2.2.2.2.2.1,s200.2.2.2.2.2.2.2.2.2.2.1,s200.2.2.2.2.2.2.2.2.2.2.2) (app1 hn200 h) (by omega) ⟨(by repeat' constructor),⟨⟨_,rfl,.vec⟩,⟨_,rfl,.same⟩,⟨_,rfl,.boxL rfl (by repeat' constructor)⟩,⟨_,rfl,.boxL rfl (by repeat' constructor)⟩,G⟩,rfl⟩)))))
   ·
    have h:=app1 hkx200 (Hcb hi200 (Gde hb))
    refine Hy (hK132 ?_)
    refine Jr fun hK214=>(JLh (.agg [.vec 1030 j130.length 12 j130.length,OW 1031 2 G9.av s200.1,G0 s200.2.1,G0 s200.2.2.1,G0 s200.2.2.2.1,G0 s200.2.2.2.2.1,E4 s200.2.2.2.2.2.1,E5 s200.2.2.2.2.2.2.1,E6 s200.2.2.2.2.2.2.2.1,G0 s200.2.2.2.2.2.2.2.2.1,G0 s200.2.2.2.2.2.2.2.2.2.1,G0 s200.2.2.2.2.2.2.2.2.2.2.1,G0 s200.2.2.2.2.2.2.2.2.2.2.2]) (Ge7 Hf O O O O) O (J8 (u:=.junk) (Ht (u:=.agg [.vec 1030 j130.length 12 j130.length,OW 1031 2 G9.av s200.1,G0 s200.2.1,G0 s200.2.2.1,G0 s200.2.2.2.1,G0 s200.2.2.2.2.1,E4 s200.2.2.2.2.2.1,E5 s200.2.2.2.2.2.2.1,E6 s200.2.2.2.2.2.2.2.1,G0 s200.2.2.2.2.2.2.2.2.1,G0 s200.2.2.2.2.2.2.2.2.2.1,G0 s200.2.2.2.2.2.2.2.2.2.2.1,G0 s200.2.2.2.2.2.2.2.2.2.2.2]) (ds:=[.vec 1030 j130.length 12 j130.length,OW 1031 2 G9.av s200.1,G0 s200.2.1,G0 s200.2.2.1,G0 s200.2.2.2.1,G0 s200.2.2.2.2.1,E4 s200.2.2.2.2.2.1,E5 s200.2.2.2.2.2.2.1,E6 s200.2.2.2.2.2.2.2.1,G0 s200.2.2.2.2.2.2.2.2.1,G0 s200.2.2.2.2.2.2.2.2.2.1,G0 s200.2.2.2.2.2.2.2.2.2.2.1,G0 s200.2.2.2.2.2.2.2.2.2.2.2]) G49 O O O O O O O O) (G7 (hK214 ?_))))
    refine Gt ?_
    obtain rfl:=Option.some.inj h
    exact⟨[.agg [.vec 1030 j130.length 12 j130.length,E3 s200.1,G0 s200.2.1,G0 s200.2.2.1,G0 s200.2.2.2.1,G0 s200.2.2.2.2.1,E4 s200.2.2.2.2.2.1,E5 s200.2.2.2.2.2.2.1,E6 s200.2.2.2.2.2.2.2.1,G0 s200.2.2.2.2.2.2.2.2.1,G0 s200.2.2.2.2.2.2.2.2.2.1,G0 s200.2.2.2.2.2.2.2.2.2.2.1,G0 s200.2.2.2.2.2.2.2.2.2.2.2]],[(1030,.vec 57 12 j130.length (j130.map G3.av))],⟨⟨_,O,.vec⟩,G⟩,O,⟨⟨_,⟨_,_,_,_,O,O,O,.inl ⟨Hf,O⟩⟩,.agg ⟨.same O,.list O,.same O,.same O,.same O,.same O,.same O,.same O,.same O,.same O,.same O,.same O,.same O,G⟩⟩,G⟩,j130.length,O,O⟩

def Qm (l:List H2) (covers:Int):Option Gu:=
 bnd (Qy l covers) fun r3=>
 each (fun y39 i39 (s39:(List G3)) nx39=>
  jp (fun kj42=>
   bnd (H62 (i39:Int) 20) fun v45=>
   G15 (10+v45) fun v46=>
   bnd (Gfa v46 4294967295) fun m47=>
   bif decide ((H70 .u32 (Gb7 .u32 covers m47) 1)=1) then
   (Z1 s39 (i39:Int) fun y48=>
    kj42 (s39.set (i39:Int).toNat (G3.mk y48.Bay y48.Row y48.Deck y48.Tiers 8000 y48.Kilos20 y48.Kilos40 y48.Lash y48.Plugs y48.X y48.Y y48.Z)))
   else
   (kj42 s39)) fun(j42:(List G3))=>
  nx39 j42)
 (fun(s39:(List G3))=>
  some (Gu.mk s39 r3.Covers r3.Light r3.Rows r3.Frames r3.Tanks r3.G2)) r3.Columns 0 r3.Columns
theorem G9c (l:List H2) (covers:Int) (r:Gu) (h:Qm l covers=some r):Pure Ek 4 [Eb l,.sc (.int .u32 covers)] (·=.agg (Gu.cs r)):=by
 unfold Qm at h
 refine H1 [.cell 4 36] Tryz.func4 O O (Jr fun hK1=>(JLh (.ptr 1004 0) (Ga4 1004 [E7 ([]:List G3),E3 ([]:List G9),G0 0,G0 0,G0 0,G0 0,E4 ([]:List Row),E5 ([]:List Frame),E6 ([]:List Gh),G0 0,G0 0,G0 0,G0 0] [.slice none 0 0,.slice none 0 0,.int .i64 0,.int .i64 0,.int .i64 0,.int .i64 0,.slice none 0 0,.slice none 0 0,.slice none 0 0,.int .i64 0,.int .i64 0,.int .i64 0,.int .i64 0] G8a ⟨.inr ⟨_,O,O⟩,.inr ⟨_,O,O⟩,.inl O,.inl O,.inl O,.inl O,.inr ⟨_,O,O⟩,.inr ⟨_,O,O⟩,.inr ⟨_,O,O⟩,.inl O,.inl O,.inl O,.inl O,G⟩ O O) O (G7 (hK1 (Jr fun hK2=>(Rq (Eb l) O (Rq (.sc (.int .u32 covers)) O ?_)))))))
 obtain⟨r3,hr3,h⟩:=Gg h
 refine Gb1 O O O (A_callLE (args:=[Eb l,.sc (.int .u32 covers)]) (L0:=[]) (u:=fun p=>.agg [.vec 1030 p 12 r3.Columns.length,E3 r3.Covers,G0 r3.Light.Kilos,G0 r3.Light.X,G0 r3.Light.Y,G0 r3.Light.Z,E4 r3.Rows,E5 r3.Frames,E6 r3.Tanks,G0 r3.G2.Tolerance,G0 r3.G2.Trim,G0 r3.G2.List_,G0 r3.G2.Stability]) (Lr:=fun p=>[(1030,.vec 57 12 p (r3.Columns.map G3.av))]) O (Gba l covers r3 hr3) J91 ⟨.inl O,O,.inl O,O,G⟩ G O (fun _=>O)) ?_
 rintro u_ L_ ⟨v4,rfl,rfl⟩
 refine JLh (.ptr 1005 0) (Jb 1005 13 Gf0 O O) O (J8 (u:=.junk) (Ht (u:=.agg [.vec 1030 v4 12 r3.Columns.length,E3 r3.Covers,G0 r3.Light.Kilos,G0 r3.Light.X,G0 r3.Light.Y,G0 r3.Light.Z,E4 r3.Rows,E5 r3.Frames,E6 r3.Tanks,G0 r3.G2.Tolerance,G0 r3.G2.Trim,G0 r3.G2.List_,G0 r3.G2.Stability]) (ds:=[.vec 1030 v4 12 r3.Columns.length,E3 r3.Covers,G0 r3.Light.Kilos,G0 r3.Light.X,G0 r3.Light.Y,G0 r3.Light.Z,E4 r3.Rows,E5 r3.Frames,E6 r3.Tanks,G0 r3.G2.Tolerance,G0 r3.G2.Trim,G0 r3.G2.List_,G0 r3.G2.Stability]) G49 O O O O O O O O) (G7 (hK2 (Js fun hK5=>?_))))
 refine Jr fun hK6=>(JLh (.ptr 1005 0) (Q7 Hq O O) O (JLh (.vec 1030 v4 12 r3.Columns.length) (Rc J6 O O O O) O (J51 (f:=G3.av) (xs:=r3.Columns) Hx O O O (fun hm12=>?_) O O O)))
 refine Rq (G0 0) O (G7 (hK6 (Gv ?_)))
 obtain⟨b39,kx39,hb39,hkx39,h⟩:=Ja h
 refine Hr (fun i39 (s39:(List G3))=>each b39 kx39 (List.drop i39 r3.Columns) i39 s39=some r) (fun i39 s39=>[(1,.sc (.int .u32 covers)),(4,.ptr 1004 0),(5,.ptr 1005 0),(12,Ej r3.Columns.length),(13,Ej i39)]) (fun i39 s39=>[(1030,.vec 57 12 v4 (s39.map G3.av)),(1004,.box 36 [E7 ([]:List G3),E3 ([]:List G9),G0 0,G0 0,G0 0,G0 0,E4 ([]:List Row),E5 ([]:List Frame),E6 ([]:List Gh),G0 0,G0 0,G0 0,G0 0]),(1005,.box 36 [.vec 1030 v4 12 r3.Columns.length,E3 r3.Covers,G0 r3.Light.Kilos,G0 r3.Light.X,G0 r3.Light.Y,G0 r3.Light.Z,E4 r3.Rows,E5 r3.Frames,E6 r3.Tanks,G0 r3.G2.Tolerance,G0 r3.G2.Trim,G0 r3.G2.List_,G0 r3.G2.Stability])]) (fun i39=>r3.Columns.length - i39) 0 r3.Columns h ⟨(by repeat' constructor),⟨⟨_,rfl,.vec⟩,⟨_,rfl,.boxL rfl (by repeat' constructor)⟩,⟨_,rfl,.boxL rfl (by repeat' constructor)⟩,G⟩,rfl⟩ ?_
 clear h
 intro i39 s39 hi39 K39 e39
 refine Jr fun hK40=>(JLh (BL (decide ((i39:Int) < (r3.Columns.length:Int)))) (Jc O O O) O (G7 (hK40 (Js fun hK41=>Gm O (fun hb=>?_) (fun hb=>?_)))))
 ·
  have hk39:=Jz hb
  obtain⟨y39,nx39,hy39,hn39,h⟩:=Hu hi39 hk39
  replace h:=Zr hb39 h
  refine Gp (hK41 ?_)
  obtain⟨kj42,hkj42,h⟩:=Yo h
  refine Rb (fun j42:(List G3)=>kj42 j42=some r) (fun j42=>[(1,.sc (.int .u32 covers)),(4,.ptr 1004 0),(5,.ptr 1005 0),(12,Ej r3.Columns.length),(13,Ej i39)]) (fun j42=>[(1030,.vec 57 12 v4 (j42.map G3.av)),(1004,.box 36 [E7 ([]:List G3),E3 ([]:List G9),G0 0,G0 0,G0 0,G0 0,E4 ([]:List Row),E5 ([]:List Frame),E6 ([]:List Gh),G0 0,G0 0,G0 0,G0 0]),(1005,.box 36 [.vec 1030 v4 12 r3.Columns.length,E3 r3.Covers,G0 r3.Light.Kilos,G0 r3.Light.X,G0 r3.Light.Y,G0 r3.Light.Z,E4 r3.Rows,E5 r3.Frames,E6 r3.Tanks,G0 r3.G2.Tolerance,G0 r3.G2.Trim,G0 r3.G2.List_,G0 r3.G2.Stability])]) (fun Kj42 ej42=>?_) ?_
  ·
   refine Gv (Jr fun hK43=>(Rq (Ej i39) O (Rq (Ej i39) O (G7 (hK43 (Jr fun hK44=>(Rq (.sc (.int .u32 covers)) O (Rq (Ej i39) O ?_))))))))
   obtain⟨v45,hv45,h⟩:=Gg h
   refine JLh (G0 v45) (J59 (Zj hv45).1 (Zj hv45).2 O O O) O ?_
   obtain⟨v46,hv46,h⟩:=Jj h
   refine JLh (G0 v46) (J0 hv46 O O O) O ?_
   obtain⟨m47,hm47,h⟩:=Gg h
   refine JLh (.sc (.int .u32 (Gb7 .u32 covers m47))) (J20 (s:=m47) (G4d hm47).1 O O O) O (JLh (.sc (.int .u32 (H70 .u32 (Gb7 .u32 covers m47) 1))) (J46 O O O) O (JLh (BL (decide ((H70 .u32 (Gb7 .u32 covers m47) 1)=1))) (Qc O O O) O (G7 (hK44 (JCc O h (fun h hb=>?_) (fun h hb=>?_))))))
   ·
    refine G4 (JLh (.ptr 1005 0) (Q7 Hq O O) O (JLh (.vec 1030 v4 12 r3.Columns.length) (Rc J6 O O O O) O (Rq (Ej i39) O ?_)))
    obtain⟨y48,hmy48,hy48,h⟩:=gidx_outT h
    refine JLh (.vptr 1030 v4 ((i39:Int).toNat) 0) (A_vidxM (f:=G3.av) (xs:=s39) (y:=y48) O O O O Hx hy48 hmy48) O (JLh (.vptr 1030 v4 ((i39:Int).toNat) 4) (A_vfield Gb5 O O O) O (J8 (u:=.junk) (A_vstoreF (f:=G3.av) (xs:=s39) (e:=y48) (z:=(G3.mk y48.Bay y48.Row y48.Deck y48.Tiers 8000 y48.Kilos20 y48.Kilos40 y48.Lash y48.Plugs y48.X y48.Y y48.Z)) (u:=G0 8000) Gbe O O O O hy48 O O O O O) (G7 (ej42 _ _ (s39.set (i39:Int).toNat (G3.mk y48.Bay y48.Row y48.Deck y48.Tiers 8000 y48.Kilos20 y48.Kilos40 y48.Lash y48.Plugs y48.X y48.Y y48.Z)) h ⟨(by repeat' constructor),⟨⟨_,rfl,.vec⟩,⟨_,rfl,.boxL rfl (by repeat' constructor)⟩,⟨_,rfl,.boxL rfl (by repeat' constructor)⟩,G⟩,rfl⟩))))
   ·
    refine Gp (ej42 _ _ s39 h ⟨(by repeat' constructor),⟨⟨_,rfl,.vec⟩,⟨_,rfl,.boxL rfl (by repeat' constructor)⟩,⟨_,rfl,.boxL rfl (by repeat' constructor)⟩,G⟩,rfl⟩)
  ·intro j42 h
   replace h:=app1 hkj42 h
   refine G4 (JLh (G0 ((i39+1:Nat):Int)) (J0 (Ho hk39 hm12) O O O) O (Rq (G0 ((i39+1:Nat):Int)) O (G7 (e39 _ _ (i39+1) j42 (app1 hn39 h) (by omega) ⟨(by repeat' constructor),⟨⟨_,rfl,.vec⟩,⟨_,rfl,.boxL rfl (by repeat' constructor)⟩,⟨_,rfl,.boxL rfl (by repeat' constructor)⟩,G⟩,rfl⟩))))
 ·
  have h:=app1 hkx39 (Hv hi39 (Hi hb))
  refine Hy (hK5 ?_)
  refine Jr fun hK49=>(JLh (.agg [.vec 1030 v4 12 r3.Columns.length,E3 r3.Covers,G0 r3.Light.Kilos,G0 r3.Light.X,G0 r3.Light.Y,G0 r3.Light.Z,E4 r3.Rows,E5 r3.Frames,E6 r3.Tanks,G0 r3.G2.Tolerance,G0 r3.G2.Trim,G0 r3.G2.List_,G0 r3.G2.Stability]) (Ge7 Hf O O O O) O (J8 (u:=.junk) (Ht (u:=.agg [.vec 1030 v4 12 r3.Columns.length,E3 r3.Covers,G0 r3.Light.Kilos,G0 r3.Light.X,G0 r3.Light.Y,G0 r3.Light.Z,E4 r3.Rows,E5 r3.Frames,E6 r3.Tanks,G0 r3.G2.Tolerance,G0 r3.G2.Trim,G0 r3.G2.List_,G0 r3.G2.Stability]) (ds:=[.vec 1030 v4 12 r3.Columns.length,E3 r3.Covers,G0 r3.Light.Kilos,G0 r3.Light.X,G0 r3.Light.Y,G0 r3.Light.Z,E4 r3.Rows,E5 r3.Frames,E6 r3.Tanks,G0 r3.G2.Tolerance,G0 r3.G2.Trim,G0 r3.G2.List_,G0 r3.G2.Stability]) G49 O O O O O O O O) (G7 (hK49 ?_))))
  refine JC_vgiveB 1004 0 (v4+1) O O O (Nat.lt_succ_self _) (cs':=[E7 s39,E3 r3.Covers,G0 r3.Light.Kilos,G0 r3.Light.X,G0 r3.Light.Y,G0 r3.Light.Z,E4 r3.Rows,E5 r3.Frames,E6 r3.Tanks,G0 r3.G2.Tolerance,G0 r3.G2.Trim,G0 r3.G2.List_,G0 r3.G2.Stability]) O (Gt (⟨[.agg [E7 s39,E3 r3.Covers,G0 r3.Light.Kilos,G0 r3.Light.X,G0 r3.Light.Y,G0 r3.Light.Z,E4 r3.Rows,E5 r3.Frames,E6 r3.Tanks,G0 r3.G2.Tolerance,G0 r3.G2.Trim,G0 r3.G2.List_,G0 r3.G2.Stability]],[],G,O,⟨⟨_,⟨_,_,_,_,O,O,O,.inl ⟨Hf,O⟩⟩,.conv (.same O)⟩,G⟩,O,congrArg (fun r:Gu=>(.agg (Gu.cs r):AV)) (Option.some.inj h)⟩))
end
end Go.Proofs.YtapmanciffiibaaGreat
