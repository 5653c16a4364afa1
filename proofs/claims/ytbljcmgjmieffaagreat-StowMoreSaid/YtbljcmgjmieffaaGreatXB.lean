/-
 Models of functions of the program,and that they return what the models say.
-/
import Derived.Test.YtbljcmgjmieffaaGreatSpecR
set_option linter.unnecessarySimpa false
set_option maxRecDepth 100000
set_option linter.unusedVariables false
set_option linter.unusedSimpArgs false
namespace Go.Proofs.YtbljcmgjmieffaaGreat
open Go.RowKit
noncomputable section
structure H0 where
 Bay:Int
 Row:Int
 Tiers:Int
 Deck:Bool
 deriving DecidableEq,Inhabited
def H0.cs (x:H0):List AV:=[U8 x.Bay,U8 x.Row,U8 x.Tiers,BL x.Deck]
def H0.av (x:H0):AV:=.agg x.cs
abbrev Eb:=LS 4 H0.av
namespace XBF
open XAF
open XCF
open XGF
theorem J7f:G61 Ek 107 4=true:=by kernel_rfl
theorem J7c:Hb Ek 22=true:=by kernel_rfl
theorem J6f:Hb Ek 50=true:=by kernel_rfl
theorem J61:Hb Ek 78=true:=by kernel_rfl
theorem J5b:Qy Ek 55 12 112=true:=by kernel_rfl
theorem Hc8:Qy Ek 70 2 32=true:=by kernel_rfl
theorem Hc7:J8 Ek 107 0 0=true:=by kernel_rfl
theorem Hc6:J8 Ek 107 1 1=true:=by kernel_rfl
theorem Hc5:J8 Ek 107 2 2=true:=by kernel_rfl
theorem Hc4:J8 Ek 107 3 3=true:=by kernel_rfl
theorem G4f:H59 Ek 3 .i64=true:=by kernel_rfl
theorem Gb3:H59 Ek 5 .u8=true:=by kernel_rfl
theorem Yt:placesOf Ek 55=some [(0,1),(1,1),(2,1),(3,1),(4,1),(5,1),(6,1),(7,1),(8,1),(9,1),(10,1),(11,1)]:=by kernel_rfl
theorem Gc9:placesOf Ek 70=some [(0,1),(1,1)]:=by kernel_rfl
theorem J39:Qo Ek 107 4=true:=by kernel_rfl
theorem Hc0:Qo Ek 26 1=true:=by kernel_rfl
theorem Hbf:Qo Ek 27 1=true:=by kernel_rfl
theorem Gb2:Qo Ek 3 1=true:=by kernel_rfl
theorem G3a:Qo Ek 36 13=true:=by kernel_rfl
theorem G9f:sliceB Ek 22 107 4=true:=by kernel_rfl
theorem G7d:(Ek.info? 36).bind (fun i=>i.zero.map Value.cells)=some (List.toArray [.slice none 0 0,.slice none 0 0,.int .i64 0,.int .i64 0,.int .i64 0,.int .i64 0,.slice none 0 0,.slice none 0 0,.slice none 0 0,.int .i64 0,.int .i64 0,.int .i64 0,.int .i64 0]):=by kernel_rfl
theorem G1a:(Ek.info? 55).bind (fun i=>i.zero.map Value.cells)=some (List.toArray [.int .i64 0,.int .i64 0,.bool false,.int .i64 0,.int .i64 0,.int .i64 0,.int .i64 0,.int .i64 0,.slice none 0 0,.int .i64 0,.int .i64 0,.int .i64 0]):=by kernel_rfl
theorem H2a:(Ek.info? 70).bind (fun i=>i.zero.map Value.cells)=some (List.toArray [.int .i64 0,.slice none 0 0]):=by kernel_rfl
theorem J29:Q8 Ek 107 4=true:=by kernel_rfl
theorem Ge7:Q8 Ek 36 13=true:=by kernel_rfl
end XBF
open XAF
open XCF
open XGF
open XBF

def G4a (c:G3) (p1:Int) (p2:Int) (p3:Bool):Option Bool:=
 some (((decide (c.Bay=p1))&&(decide (c.Row=p2)))&&(c.Deck==p3))
theorem Hae (c:G3) (p1:Int) (p2:Int) (p3:Bool) (r:Bool) (h:G4a c p1 p2 p3=some r):Pure Ek 78 [.agg (G3.cs c),.dptr [G0 p1],.dptr [G0 p2],.dptr [BL p3]] (·=BL r):=by
 unfold G4a at h
 refine H1 [.tmp 5] Tryz.func78 O O (Jr fun hK1=>(JLh (.ptr 1098 0) (Jn (cs:=(G3.cs c)) 1098 O O O O O) O (Qk (BL false) O (G7 (hK1 (Gt [(1,.dptr [G0 p1]),(2,.dptr [G0 p2]),(3,.dptr [BL p3]),(4,Ee c)] [] 1098 rfl rfl rfl G rfl (by repeat' (first | exact .ptr | constructor)) ?_))))))
 refine Jr fun hK2=>(JLh (Ee c) (Gc Z2 O O O) O (JLh (G0 c.Bay) (Gi Ge O O O) O (JLh (G0 p1) (Gi Ge O O O) O (JLh (BL (decide (c.Bay=p1))) (Jz O O O) O (Qk (BL (decide (c.Bay=p1))) O (JLo (.dptr [G0 c.Row,BL c.Deck,G0 c.Tiers,G0 c.Height,G0 c.Kilos20,G0 c.Kilos40,G0 c.Lash,E0 c.Plugs,G0 c.X,G0 c.Y,G0 c.Z]) [] O .sct G (fun hc=>Gc Z1 O O O) O (JLo (G0 c.Row) [11] O .sct ⟨Ua,G⟩ (fun hc=>Gi Ge O O O) O (JLo (G0 p2) [] O .sct G (fun hc=>Gi Ge O O O) O (JLo (BL (decide (c.Row=p2))) [12,13] O .sct ⟨Ua,Ua,G⟩ (fun hc=>Jz O O O) O (JLh (BL ((decide (c.Bay=p1))&&(decide (c.Row=p2)))) (Qi O O O O) O (Qk (BL ((decide (c.Bay=p1))&&(decide (c.Row=p2)))) O (JLo (.dptr [BL c.Deck,G0 c.Tiers,G0 c.Height,G0 c.Kilos20,G0 c.Kilos40,G0 c.Lash,E0 c.Plugs,G0 c.X,G0 c.Y,G0 c.Z]) [] O .sct G (fun hc=>Gc Rm O O O) O (JLo (BL c.Deck) [17] O .sct ⟨Ua,G⟩ (fun hc=>Gi Q7 O O O) O ?_)))))))))))))
 refine JLo (BL p3) [] O .sct G (fun hc=>Gi Q7 O O O) O (JLo (BL (c.Deck==p3)) [18,19] O .sct ⟨Ua,Ua,G⟩ (fun hc=>J15 H72 O O O) O (JLh (BL (((decide (c.Bay=p1))&&(decide (c.Row=p2)))&&(c.Deck==p3))) (Qi O O O O) O (Qk (BL (((decide (c.Bay=p1))&&(decide (c.Row=p2)))&&(c.Deck==p3))) O (G7 (hK2 (Gu (fin1 BL h)))))))

def G5a (s:Gw) (bay:Int) (row:Int) (deck:Bool):Option (Int×Bool):=
 bnd (Jk s.Columns (fun z0=>G4a z0 bay row deck)) fun r3=>
 bif decide ((r3.length:Int)=0) then
 (some (0,false))
 else
 (Yj r3 0 fun y8=>
  some (y8,true))
theorem M_ship_Find_w (s:Gw) (bay:Int) (row:Int) (deck:Bool) (r:Int×Bool) (h:G5a s bay row deck=some r):Pure Ek 50 [.agg (Gw.cs s),G0 bay,G0 row,BL deck] (·=.tup [G0 r.1,BL r.2]):=by
 unfold G5a at h
 refine H1 [.tmp 8,.tmp 9] Tryz.func50 O O (Jr fun hK1=>(JLh (.ptr 1079 0) (Jn (cs:=(Gw.cs s)) 1079 O O O O O) O (JLh (.ptr 1080 0) (Jn (cs:=[G0 bay]) 1080 O O O O O) O (JLh (.ptr 1081 0) (Jn (cs:=[G0 row]) 1081 O O O O O) O (JLh (.ptr 1082 0) (Jn (cs:=[BL deck]) 1082 O O O O O) O (Qk (G0 0) O (Qk (BL false) O (G7 (hK1 ?_)))))))))
 refine Gt [(4,Ec s),(5,.ptr 1080 0),(6,.ptr 1081 0),(7,.ptr 1082 0)] [(1080,.box 3 [G0 bay]),(1081,.box 3 [G0 row]),(1082,.box 4 [BL deck])] 1079 rfl rfl rfl ⟨⟨_,rfl,.boxEq rfl rfl⟩,⟨_,rfl,.boxEq rfl rfl⟩,⟨_,rfl,.boxEq rfl rfl⟩,G⟩ rfl (by repeat' (first | exact .ptr | constructor)) ?_
 refine Gt [(4,Ec s),(5,.dptr [G0 bay]),(6,.ptr 1081 0),(7,.ptr 1082 0)] [(1081,.box 3 [G0 row]),(1082,.box 4 [BL deck])] 1080 rfl rfl rfl ⟨⟨_,rfl,.boxEq rfl rfl⟩,⟨_,rfl,.boxEq rfl rfl⟩,G⟩ rfl (by repeat' (first | exact .ptr | constructor)) ?_
 refine Gt [(4,Ec s),(5,.dptr [G0 bay]),(6,.dptr [G0 row]),(7,.ptr 1082 0)] [(1082,.box 4 [BL deck])] 1081 rfl rfl rfl ⟨⟨_,rfl,.boxEq rfl rfl⟩,G⟩ rfl (by repeat' (first | exact .ptr | constructor)) ?_
 refine Gt [(4,Ec s),(5,.dptr [G0 bay]),(6,.dptr [G0 row]),(7,.dptr [BL deck])] [] 1082 rfl rfl rfl G rfl (by repeat' (first | exact .ptr | constructor)) ?_
 refine Jr fun hK2=>(JLh (Ec s) (Gc Hk O O O) O (JLh (E7 s.Columns) (Gi J2 O O O) O (JLh (.fn 78 [.dptr [G0 bay],.dptr [G0 row],.dptr [BL deck]]) (Yh (cs:=[.dptr [G0 bay],.dptr [G0 row],.dptr [BL deck]]) O O) O ?_)))
 obtain⟨r3,hr3,h⟩:=Gf h
 refine JLh (E0 r3) (Gv O (G04 s.Columns (fun z0=>G4a z0 bay row deck) 78 [.dptr [G0 bay],.dptr [G0 row],.dptr [BL deck]] J61 O (fun z0 q hq=>Hae z0 bay row deck q hq) r3 hr3) Hcd ⟨O,O,O,O,G⟩) O (Qk (E0 r3) O (G7 (hK2 (Js fun hK4=>Jr fun hK5=>(Qk (E0 r3) O (JLl Gh O O O fun hm16=>(JLh (BL (decide ((r3.length:Int)=0))) (Jz O O O) O (G7 (hK5 (JCc O h (fun h hb=>?_) (fun h hb=>?_)))))))))))
 ·
  refine Jr fun hK6=>(Qk (G0 0) O (Qk (BL false) O (G7 (hK6 (Gu (⟨[G0 0,BL false],[],G,O,⟨⟨_,O,.conv (.same O)⟩,⟨_,O,.conv (.same O)⟩,G⟩,O,congrArg (fun r:Int×Bool=>(.tup [G0 r.1,BL r.2]:AV)) (Option.some.inj h)⟩))))))
 ·
  refine Gs (hK4 (Jr fun hK7=>(Qk (E0 r3) O ?_)))
  obtain⟨m9,y8,hm9,hy8,h⟩:=Y6 h
  refine JLh (.dptr [G0 y8]) (Hc (f:=G0) (xs:=r3) (y:=y8) O O O Gh hy8 hm9) O (JLh (G0 y8) (Gi Ge O O O) O (Qk (G0 y8) O (Qk (BL true) O (G7 (hK7 (Gu (⟨[G0 y8,BL true],[],G,O,⟨⟨_,O,.conv (.same O)⟩,⟨_,O,.conv (.same O)⟩,G⟩,O,congrArg (fun r:Int×Bool=>(.tup [G0 r.1,BL r.2]:AV)) (Option.some.inj h)⟩)))))))

def Qq (l:List H0) (covers:Int):Option Gw:=
 bnd (Gf0 (min (l.length:Int) 12) l.length) fun m5=>
 each (fun y106 i106 (s106:(List G9)×Int×Int×Int×Int×(List Row)×(List Frame)×(List Gg)×Int×Int×Int×Int×(List G3)) nx106=>
  jp (fun kj109=>
   Zf (y106.Bay) fun v112=>
   bnd (H20 v112 5) fun v113=>
   Zf (y106.Row) fun v114=>
   bnd (H20 v114 5) fun v115=>
   Zf (y106.Tiers) fun v116=>
   bnd (H20 v116 4) fun v117=>
   Zf (2+v117) fun v118=>
   Zf (13000*v113) fun v120=>
   Zf (v120 - 26000) fun v121=>
   Zf (2500*v115) fun v122=>
   Zf (v122 - 5000) fun v123=>
   jp (fun kj124=>
    bif y106.Deck then
    (kj124 20000)
    else
    (kj124 2000)) fun(j124:Int)=>
   bnd (G5a (Gw.mk s106.2.2.2.2.2.2.2.2.2.2.2.2 s106.1 (Light.mk s106.2.1 s106.2.2.1 s106.2.2.2.1 s106.2.2.2.2.1) s106.2.2.2.2.2.1 s106.2.2.2.2.2.2.1 s106.2.2.2.2.2.2.2.1 (G2.mk s106.2.2.2.2.2.2.2.2.1 s106.2.2.2.2.2.2.2.2.2.1 s106.2.2.2.2.2.2.2.2.2.2.1 s106.2.2.2.2.2.2.2.2.2.2.2.1)) v113 v115 y106.Deck) fun r127=>
   bif (!r127.2) then
   (need (decide ((s106.2.2.2.2.2.2.2.2.2.2.2.2.length+[(G3.mk v113 v115 y106.Deck v118 0 500000000 500000000 0 [] v121 v123 j124)].length)*112≤140737488355328∧s106.2.2.2.2.2.2.2.2.2.2.2.2.length+[(G3.mk v113 v115 y106.Deck v118 0 500000000 500000000 0 [] v121 v123 j124)].length≤maxLen)) <|
    kj109 (s106.2.2.2.2.2.2.2.2.2.2.2.2++[(G3.mk v113 v115 y106.Deck v118 0 500000000 500000000 0 [] v121 v123 j124)]))
   else
   (kj109 s106.2.2.2.2.2.2.2.2.2.2.2.2)) fun(j109:(List G3))=>
  nx106 (s106.1,s106.2.1,s106.2.2.1,s106.2.2.2.1,s106.2.2.2.2.1,s106.2.2.2.2.2.1,s106.2.2.2.2.2.2.1,s106.2.2.2.2.2.2.2.1,s106.2.2.2.2.2.2.2.2.1,s106.2.2.2.2.2.2.2.2.2.1,s106.2.2.2.2.2.2.2.2.2.2.1,s106.2.2.2.2.2.2.2.2.2.2.2.1,j109))
 (fun(s106:(List G9)×Int×Int×Int×Int×(List Row)×(List Frame)×(List Gg)×Int×Int×Int×Int×(List G3))=>
  jp (fun kj130=>
   bif decide ((s106.2.2.2.2.2.2.2.2.2.2.2.2.length:Int)=0) then
   (kj130 ([(G3.mk 0 0 false 3 0 500000000 500000000 0 [] 0 0 2000)]))
   else
   (kj130 s106.2.2.2.2.2.2.2.2.2.2.2.2)) fun(j130:(List G3))=>
  need (decide (5≤9223372036854775807)) <|
  upto (fun i200 (s200:(List G9)×Int×Int×Int×Int×(List Row)×(List Frame)×(List Gg)×Int×Int×Int×Int) nx200=>
   jp (fun kj203=>
    jp (fun kj204=>
     Zf (2*(i200:Int)) fun v206=>
     bnd (Gf0 v206 4294967295) fun m207=>
     bif decide ((H61 .u32 (Gcf .u32 covers m207) 1)=1) then
     (need (decide ((s200.1.length+[(G9.mk (i200:Int) [0,1])].length)*32≤140737488355328∧s200.1.length+[(G9.mk (i200:Int) [0,1])].length≤maxLen)) <|
      kj204 (s200.1++[(G9.mk (i200:Int) [0,1])]))
     else
     (kj204 s200.1)) fun(j204:(List G9))=>
    Zf (2*(i200:Int)) fun v210=>
    Zf (v210+1) fun v211=>
    bnd (Gf0 v211 4294967295) fun m212=>
    bif decide ((H61 .u32 (Gcf .u32 covers m212) 1)=1) then
    (need (decide ((j204.length+[(G9.mk (i200:Int) [2,3,4])].length)*32≤140737488355328∧j204.length+[(G9.mk (i200:Int) [2,3,4])].length≤maxLen)) <|
     kj203 (j204++[(G9.mk (i200:Int) [2,3,4])]))
    else
    (kj203 j204)) fun(j203:(List G9))=>
   nx200 (j203,s200.2.1,s200.2.2.1,s200.2.2.2.1,s200.2.2.2.2.1,s200.2.2.2.2.2.1,s200.2.2.2.2.2.2.1,s200.2.2.2.2.2.2.2.1,s200.2.2.2.2.2.2.2.2.1,s200.2.2.2.2.2.2.2.2.2.1,s200.2.2.2.2.2.2.2.2.2.2.1,s200.2.2.2.2.2.2.2.2.2.2.2))
  (fun(s200:(List G9)×Int×Int×Int×Int×(List Row)×(List Frame)×(List Gg)×Int×Int×Int×Int)=>
   some (Gw.mk j130 s200.1 (Light.mk s200.2.1 s200.2.2.1 s200.2.2.2.1 s200.2.2.2.2.1) s200.2.2.2.2.2.1 s200.2.2.2.2.2.2.1 s200.2.2.2.2.2.2.2.1 (G2.mk s200.2.2.2.2.2.2.2.2.1 s200.2.2.2.2.2.2.2.2.2.1 s200.2.2.2.2.2.2.2.2.2.2.1 s200.2.2.2.2.2.2.2.2.2.2.2))) (5:Int).toNat 0 (s106.1,s106.2.1,s106.2.2.1,s106.2.2.2.1,s106.2.2.2.2.1,s106.2.2.2.2.2.1,s106.2.2.2.2.2.2.1,s106.2.2.2.2.2.2.2.1,s106.2.2.2.2.2.2.2.2.1,s106.2.2.2.2.2.2.2.2.2.1,s106.2.2.2.2.2.2.2.2.2.2.1,s106.2.2.2.2.2.2.2.2.2.2.2.1)) (l.take m5) 0 ([],0,0,0,0,[],[],[],0,0,0,0,[])
theorem Gad (l:List H0) (covers:Int) (r:Gw) (h:Qq l covers=some r):Jt Ek 22 [Eb l,.sc (.int .u32 covers)] [] (fun av L'=>∃ p:Nat,av=.agg [.vec 1041 p 12 r.Columns.length,E6 r.Covers,G0 r.Light.Kilos,G0 r.Light.X,G0 r.Light.Y,G0 r.Light.Z,E3 r.Rows,E4 r.Frames,E5 r.Tanks,G0 r.G2.Tolerance,G0 r.G2.Trim,G0 r.G2.List_,G0 r.G2.Stability]∧L'=[(1041,.vec 55 12 p (r.Columns.map G3.av))]):=by
 unfold Qq at h
 refine Yw [] [.cell 4 36] Tryz.func22 O O (H5a O) (Jr fun hK1=>(JLh (.ptr 1037 0) (G98 1037 [E7 ([]:List G3),E6 ([]:List G9),G0 0,G0 0,G0 0,G0 0,E3 ([]:List Row),E4 ([]:List Frame),E5 ([]:List Gg),G0 0,G0 0,G0 0,G0 0] [.slice none 0 0,.slice none 0 0,.int .i64 0,.int .i64 0,.int .i64 0,.int .i64 0,.slice none 0 0,.slice none 0 0,.slice none 0 0,.int .i64 0,.int .i64 0,.int .i64 0,.int .i64 0] G7d ⟨.inr ⟨_,O,O⟩,.inr ⟨_,O,O⟩,.inl O,.inl O,.inl O,.inl O,.inr ⟨_,O,O⟩,.inr ⟨_,O,O⟩,.inr ⟨_,O,O⟩,.inl O,.inl O,.inl O,.inl O,G⟩ O O) O (G7 (hK1 ?_))))
 refine Jr fun hK2=>(JLh (.ptr 1038 0) (G98 1038 [.sc (.slice none 0 0),.sc (.slice none 0 0),G0 0,G0 0,G0 0,G0 0,E3 ([]:List Row),E4 ([]:List Frame),E5 ([]:List Gg),G0 0,G0 0,G0 0,G0 0] [.slice none 0 0,.slice none 0 0,.int .i64 0,.int .i64 0,.int .i64 0,.int .i64 0,.slice none 0 0,.slice none 0 0,.slice none 0 0,.int .i64 0,.int .i64 0,.int .i64 0,.int .i64 0] G7d ⟨.inl O,.inl O,.inl O,.inl O,.inl O,.inl O,.inr ⟨_,O,O⟩,.inr ⟨_,O,O⟩,.inr ⟨_,O,O⟩,.inl O,.inl O,.inl O,.inl O,G⟩ O O) O ?_)
 refine J80 1038 0 1041 55 12 O O O (cs':=[.vec 1041 (([]:List G3).length) 12 (([]:List G3).length),.sc (.slice none 0 0),G0 0,G0 0,G0 0,G0 0,E3 ([]:List Row),E4 ([]:List Frame),E5 ([]:List Gg),G0 0,G0 0,G0 0,G0 0]) O (J0c 1038 1 1042 70 2 O O O (cs':=[.vec 1041 (([]:List G3).length) 12 (([]:List G3).length),OW 1042 2 G9.av ([]:List G9),G0 0,G0 0,G0 0,G0 0,E3 ([]:List Row),E4 ([]:List Frame),E5 ([]:List Gg),G0 0,G0 0,G0 0,G0 0]) O (G7 (hK2 (Js fun hK3=>Jr fun hK4=>(Qk (Eb l) O (Qk (Eb l) O (JLl G9f O O O fun hm14=>(JLh (G0 (min (l.length:Int) 12)) (A_min O O O) O ?_))))))))
 obtain⟨m5,hm5,h⟩:=Gf h
 refine JLh (Eb (l.take m5)) (H43 (f:=H0.av) (xs:=l) O O O G9f (G3c hm5)) O (JLl G9f O O O fun hm17=>(Qk (G0 0) O (G7 (hK4 (Gx ?_)))))
 obtain⟨b106,kx106,hb106,hkx106,h⟩:=Jh h
 refine Hz (fun i106 (s106:(List G9)×Int×Int×Int×Int×(List Row)×(List Frame)×(List Gg)×Int×Int×Int×Int×(List G3))=>each b106 kx106 (List.drop i106 (l.take m5)) i106 s106=some r) (fun i106 s106=>[(1,.sc (.int .u32 covers)),(4,.ptr 1037 0),(5,.ptr 1038 0),(16,Eb (l.take m5)),(17,G0 ((l.take m5).length:Int)),(18,Ej i106)]) (fun i106 s106=>[(1041,.vec 55 12 s106.2.2.2.2.2.2.2.2.2.2.2.2.length (s106.2.2.2.2.2.2.2.2.2.2.2.2.map G3.av)),(1042,.spare 70 2 s106.1.length s106.1.length),(1037,.box 36 [E7 ([]:List G3),E6 ([]:List G9),G0 0,G0 0,G0 0,G0 0,E3 ([]:List Row),E4 ([]:List Frame),E5 ([]:List Gg),G0 0,G0 0,G0 0,G0 0]),(1038,.box 36 [.vec 1041 s106.2.2.2.2.2.2.2.2.2.2.2.2.length 12 s106.2.2.2.2.2.2.2.2.2.2.2.2.length,OW 1042 2 G9.av s106.1,G0 s106.2.1,G0 s106.2.2.1,G0 s106.2.2.2.1,G0 s106.2.2.2.2.1,E3 s106.2.2.2.2.2.1,E4 s106.2.2.2.2.2.2.1,E5 s106.2.2.2.2.2.2.2.1,G0 s106.2.2.2.2.2.2.2.2.1,G0 s106.2.2.2.2.2.2.2.2.2.1,G0 s106.2.2.2.2.2.2.2.2.2.2.1,G0 s106.2.2.2.2.2.2.2.2.2.2.2.1])]) (fun i106=>(l.take m5).length - i106) 0 ([],0,0,0,0,[],[],[],0,0,0,0,[]) h ⟨(by repeat' constructor),⟨⟨_,rfl,.vec⟩,⟨_,rfl,.same⟩,⟨_,rfl,.boxL rfl (by repeat' constructor)⟩,⟨_,rfl,.boxL rfl (by repeat' constructor)⟩,G⟩,rfl⟩ ?_
 clear h
 intro i106 s106 hi106 K106 e106
 refine Jr fun hK107=>(JLh (BL (decide ((i106:Int) < ((l.take m5).length:Int)))) (Jm O O O) O (G7 (hK107 (Js fun hK108=>Gm O (fun hb=>?_) (fun hb=>?_)))))
 ·
  have hk106:=Q4 hb
  obtain⟨y106,nx106,hy106,hn106,h⟩:=J3 hi106 hk106
  replace h:=Zv hb106 h
  refine Gs (hK108 ?_)
  obtain⟨kj109,hkj109,h⟩:=Z8 h
  refine Ry (fun j109:(List G3)=>kj109 j109=some r) (fun j109=>[(1,.sc (.int .u32 covers)),(4,.ptr 1037 0),(5,.ptr 1038 0),(16,Eb (l.take m5)),(17,G0 ((l.take m5).length:Int)),(18,Ej i106)]) (fun j109=>[(1041,.vec 55 12 j109.length (j109.map G3.av)),(1042,.spare 70 2 s106.1.length s106.1.length),(1037,.box 36 [E7 ([]:List G3),E6 ([]:List G9),G0 0,G0 0,G0 0,G0 0,E3 ([]:List Row),E4 ([]:List Frame),E5 ([]:List Gg),G0 0,G0 0,G0 0,G0 0]),(1038,.box 36 [.vec 1041 j109.length 12 j109.length,OW 1042 2 G9.av s106.1,G0 s106.2.1,G0 s106.2.2.1,G0 s106.2.2.2.1,G0 s106.2.2.2.2.1,E3 s106.2.2.2.2.2.1,E4 s106.2.2.2.2.2.2.1,E5 s106.2.2.2.2.2.2.2.1,G0 s106.2.2.2.2.2.2.2.2.1,G0 s106.2.2.2.2.2.2.2.2.2.1,G0 s106.2.2.2.2.2.2.2.2.2.2.1,G0 s106.2.2.2.2.2.2.2.2.2.2.2.1])]) (fun Kj109 ej109=>?_) ?_
  ·
   refine Gx (Jr fun hK110=>(JLh (.dptr (H0.cs y106)) (Hc (f:=H0.av) (xs:=(l.take m5)) (y:=y106) O O O G9f hy106 O) O (JLh (.agg (H0.cs y106)) (Gj J7f O O O) O (JLh (.ptr 1039 0) (Jd 1039 4 J29 O O) O (J5 (u:=.junk) (Hp (u:=.agg (H0.cs y106)) (ds:=[U8 y106.Bay,U8 y106.Row,U8 y106.Tiers,BL y106.Deck]) J39 O O O O O O O O) (G7 (hK110 ?_)))))))
   refine Gt [(1,.sc (.int .u32 covers)),(4,.ptr 1037 0),(5,.ptr 1038 0),(7,.dptr (H0.cs y106)),(16,Eb (l.take m5)),(17,G0 ((l.take m5).length:Int)),(18,Ej i106)] [(1041,.vec 55 12 s106.2.2.2.2.2.2.2.2.2.2.2.2.length (s106.2.2.2.2.2.2.2.2.2.2.2.2.map G3.av)),(1042,.spare 70 2 s106.1.length s106.1.length),(1037,.box 36 [E7 ([]:List G3),E6 ([]:List G9),G0 0,G0 0,G0 0,G0 0,E3 ([]:List Row),E4 ([]:List Frame),E5 ([]:List Gg),G0 0,G0 0,G0 0,G0 0]),(1038,.box 36 [.vec 1041 s106.2.2.2.2.2.2.2.2.2.2.2.2.length 12 s106.2.2.2.2.2.2.2.2.2.2.2.2.length,OW 1042 2 G9.av s106.1,G0 s106.2.1,G0 s106.2.2.1,G0 s106.2.2.2.1,G0 s106.2.2.2.2.1,E3 s106.2.2.2.2.2.1,E4 s106.2.2.2.2.2.2.1,E5 s106.2.2.2.2.2.2.2.1,G0 s106.2.2.2.2.2.2.2.2.1,G0 s106.2.2.2.2.2.2.2.2.2.1,G0 s106.2.2.2.2.2.2.2.2.2.2.1,G0 s106.2.2.2.2.2.2.2.2.2.2.2.1])] 1039 rfl rfl rfl ⟨⟨_,rfl,.vec⟩,⟨_,rfl,.same⟩,⟨_,rfl,.boxEq rfl rfl⟩,⟨_,rfl,.boxEq rfl rfl⟩,G⟩ rfl (by repeat' (first | exact .ptr | constructor)) ?_
   refine Jr fun hK111=>(JLh (.dptr (H0.cs y106)) (Gc Hc7 O O O) O (JLh (U8 y106.Bay) (Gi J6 O O O) O ?_))
   obtain⟨v112,hv112,h⟩:=Je h
   refine JLh (G0 v112) (H08 G4f Gb3 hv112 O O) O ?_
   obtain⟨v113,hv113,h⟩:=Gf h
   refine JLh (G0 v113) (J26 (Y0 hv113).1 (Y0 hv113).2 O O O) O (JLh (.dptr ((H0.cs y106).drop 1)) (Gc Hc6 O O O) O (JLh (U8 y106.Row) (Gi J6 O O O) O ?_))
   obtain⟨v114,hv114,h⟩:=Je h
   refine JLh (G0 v114) (H08 G4f Gb3 hv114 O O) O ?_
   obtain⟨v115,hv115,h⟩:=Gf h
   refine JLh (G0 v115) (J26 (Y0 hv115).1 (Y0 hv115).2 O O O) O (JLh (.dptr [BL y106.Deck]) (Gc Hc4 O O O) O (JLh (BL y106.Deck) (Gi Q7 O O O) O (JLh (.dptr [U8 y106.Tiers,BL y106.Deck]) (Gc Hc5 O O O) O (JLh (U8 y106.Tiers) (Gi J6 O O O) O ?_))))
   obtain⟨v116,hv116,h⟩:=Je h
   refine JLh (G0 v116) (H08 G4f Gb3 hv116 O O) O ?_
   obtain⟨v117,hv117,h⟩:=Gf h
   refine JLh (G0 v117) (J26 (Y0 hv117).1 (Y0 hv117).2 O O O) O ?_
   obtain⟨v118,hv118,h⟩:=Je h
   refine JLh (G0 v118) (Hu hv118 O O O) O (JLh (.agg [G0 v113,G0 v115,BL y106.Deck,G0 v118,G0 0,G0 500000000,G0 500000000,G0 0,E0 ([]:List Int),G0 0,G0 0,G0 0]) (Ho (cs:=[G0 v113,G0 v115,BL y106.Deck,G0 v118,G0 0,G0 500000000,G0 500000000,G0 0,E0 ([]:List Int),G0 0,G0 0,G0 0]) [(0,1),(1,1),(2,1),(3,1),(4,1),(5,1),(6,1),(7,1),(8,1),(9,1),(10,1),(11,1)] [G0 0,G0 0,BL false,G0 0,G0 0,G0 0,G0 0,G0 0,E0 ([]:List Int),G0 0,G0 0,G0 0] [.int .i64 0,.int .i64 0,.bool false,.int .i64 0,.int .i64 0,.int .i64 0,.int .i64 0,.int .i64 0,.slice none 0 0,.int .i64 0,.int .i64 0,.int .i64 0] Yt G1a ⟨.inl O,.inl O,.inl O,.inl O,.inl O,.inl O,.inl O,.inl O,.inr ⟨_,O,O⟩,.inl O,.inl O,.inl O,G⟩ O O) O (JLh (.ptr 1040 0) (Jd 1040 12 Zc O O) O (J5 (u:=.junk) (Hp (u:=.agg [G0 v113,G0 v115,BL y106.Deck,G0 v118,G0 0,G0 500000000,G0 500000000,G0 0,E0 ([]:List Int),G0 0,G0 0,G0 0]) (ds:=[G0 v113,G0 v115,BL y106.Deck,G0 v118,G0 0,G0 500000000,G0 500000000,G0 0,E0 ([]:List Int),G0 0,G0 0,G0 0]) Gc5 O O O O O O O O) (G7 (hK111 ?_)))))
   refine Jr fun hK119=>(JLh (.ptr 1040 0) (Jy Z2 O O) O (JLh (G0 v113) (R2 Ge O O O O) O ?_))
   obtain⟨v120,hv120,h⟩:=Je h
   refine JLh (G0 v120) (J27 hv120 O O O) O ?_
   obtain⟨v121,hv121,h⟩:=Je h
   refine JLh (G0 v121) (H28 hv121 O O O) O (JLh (.ptr 1040 1) (Jy Z1 O O) O (JLh (G0 v115) (R2 Ge O O O O) O ?_))
   obtain⟨v122,hv122,h⟩:=Je h
   refine JLh (G0 v122) (J27 hv122 O O O) O ?_
   obtain⟨v123,hv123,h⟩:=Je h
   refine JLh (G0 v123) (H28 hv123 O O O) O (JLh (.ptr 1040 9) (Jy H1e O O) O (J5 (u:=.junk) (Hp (u:=G0 v121) (ds:=[G0 v113,G0 v115,BL y106.Deck,G0 v118,G0 0,G0 500000000,G0 500000000,G0 0,E0 ([]:List Int),G0 v121,G0 0,G0 0]) Gb2 O O O O O O O O) (JLh (.ptr 1040 10) (Jy Ge8 O O) O (J5 (u:=.junk) (Hp (u:=G0 v123) (ds:=[G0 v113,G0 v115,BL y106.Deck,G0 v118,G0 0,G0 500000000,G0 500000000,G0 0,E0 ([]:List Int),G0 v121,G0 v123,G0 0]) Gb2 O O O O O O O O) (JLh (.ptr 1040 11) (Jy G7e O O) O (J5 (u:=.junk) (Hp (u:=G0 2000) (ds:=[G0 v113,G0 v115,BL y106.Deck,G0 v118,G0 0,G0 500000000,G0 500000000,G0 0,E0 ([]:List Int),G0 v121,G0 v123,G0 2000]) Gb2 O O O O O O O O) (G7 (hK119 ?_))))))))
   obtain⟨kj124,hkj124,h⟩:=Z8 h
   refine Ry (fun j124:Int=>kj124 j124=some r) (fun j124=>[(1,.sc (.int .u32 covers)),(4,.ptr 1037 0),(5,.ptr 1038 0),(8,.ptr 1040 0),(16,Eb (l.take m5)),(17,G0 ((l.take m5).length:Int)),(18,Ej i106)]) (fun j124=>[(1041,.vec 55 12 s106.2.2.2.2.2.2.2.2.2.2.2.2.length (s106.2.2.2.2.2.2.2.2.2.2.2.2.map G3.av)),(1042,.spare 70 2 s106.1.length s106.1.length),(1037,.box 36 [E7 ([]:List G3),E6 ([]:List G9),G0 0,G0 0,G0 0,G0 0,E3 ([]:List Row),E4 ([]:List Frame),E5 ([]:List Gg),G0 0,G0 0,G0 0,G0 0]),(1038,.box 36 [.vec 1041 s106.2.2.2.2.2.2.2.2.2.2.2.2.length 12 s106.2.2.2.2.2.2.2.2.2.2.2.2.length,OW 1042 2 G9.av s106.1,G0 s106.2.1,G0 s106.2.2.1,G0 s106.2.2.2.1,G0 s106.2.2.2.2.1,E3 s106.2.2.2.2.2.1,E4 s106.2.2.2.2.2.2.1,E5 s106.2.2.2.2.2.2.2.1,G0 s106.2.2.2.2.2.2.2.2.1,G0 s106.2.2.2.2.2.2.2.2.2.1,G0 s106.2.2.2.2.2.2.2.2.2.2.1,G0 s106.2.2.2.2.2.2.2.2.2.2.2.1]),(1040,.box 55 [G0 v113,G0 v115,BL y106.Deck,G0 v118,G0 0,G0 500000000,G0 500000000,G0 0,E0 ([]:List Int),G0 v121,G0 v123,G0 j124])]) (fun Kj124 ej124=>?_) ?_
   ·
    refine Jr fun hK125=>(JLh (.ptr 1040 2) (Jy Rm O O) O (JLh (BL y106.Deck) (R2 Q7 O O O O) O (G7 (hK125 (JCc O h (fun h hb=>?_) (fun h hb=>?_))))))
    ·
     refine G4 (JLh (.ptr 1040 11) (Jy G7e O O) O (J5 (u:=.junk) (Hp (u:=G0 20000) (ds:=[G0 v113,G0 v115,BL y106.Deck,G0 v118,G0 0,G0 500000000,G0 500000000,G0 0,E0 ([]:List Int),G0 v121,G0 v123,G0 20000]) Gb2 O O O O O O O O) (G7 (ej124 _ _ 20000 h ⟨(by repeat' constructor),⟨⟨_,rfl,.vec⟩,⟨_,rfl,.same⟩,⟨_,rfl,.boxL rfl (by repeat' constructor)⟩,⟨_,rfl,.boxL rfl (by repeat' constructor)⟩,⟨_,rfl,.boxL rfl (by repeat' constructor)⟩,G⟩,rfl⟩))))
    ·
     refine Gs (ej124 _ _ 2000 h ⟨(by repeat' constructor),⟨⟨_,rfl,.vec⟩,⟨_,rfl,.same⟩,⟨_,rfl,.boxL rfl (by repeat' constructor)⟩,⟨_,rfl,.boxL rfl (by repeat' constructor)⟩,⟨_,rfl,.boxL rfl (by repeat' constructor)⟩,G⟩,rfl⟩)
   ·intro j124 h
    replace h:=app1 hkj124 h
    refine Jr fun hK126=>(JLh (.agg [.vec 1041 s106.2.2.2.2.2.2.2.2.2.2.2.2.length 12 s106.2.2.2.2.2.2.2.2.2.2.2.2.length,OW 1042 2 G9.av s106.1,G0 s106.2.1,G0 s106.2.2.1,G0 s106.2.2.2.1,G0 s106.2.2.2.2.1,E3 s106.2.2.2.2.2.1,E4 s106.2.2.2.2.2.2.1,E5 s106.2.2.2.2.2.2.2.1,G0 s106.2.2.2.2.2.2.2.2.1,G0 s106.2.2.2.2.2.2.2.2.2.1,G0 s106.2.2.2.2.2.2.2.2.2.2.1,G0 s106.2.2.2.2.2.2.2.2.2.2.2.1]) (Gdf Hd O O O O) O (JLh (.ptr 1040 0) (Jy Z2 O O) O (JLh (G0 v113) (R2 Ge O O O O) O (JLh (.ptr 1040 1) (Jy Z1 O O) O (JLh (G0 v115) (R2 Ge O O O O) O (JLh (.ptr 1040 2) (Jy Rm O O) O (JLh (BL y106.Deck) (R2 Q7 O O O O) O ?_)))))))
    obtain⟨r127,hr127,h⟩:=Gf h
    refine JLh (.tup [G0 r127.1,BL r127.2]) (J89 (args:=[.agg [E7 s106.2.2.2.2.2.2.2.2.2.2.2.2,E6 s106.1,G0 s106.2.1,G0 s106.2.2.1,G0 s106.2.2.2.1,G0 s106.2.2.2.2.1,E3 s106.2.2.2.2.2.1,E4 s106.2.2.2.2.2.2.1,E5 s106.2.2.2.2.2.2.2.1,G0 s106.2.2.2.2.2.2.2.2.1,G0 s106.2.2.2.2.2.2.2.2.2.1,G0 s106.2.2.2.2.2.2.2.2.2.2.1,G0 s106.2.2.2.2.2.2.2.2.2.2.2.1],G0 v113,G0 v115,BL y106.Deck]) O (M_ship_Find_w (Gw.mk s106.2.2.2.2.2.2.2.2.2.2.2.2 s106.1 (Light.mk s106.2.1 s106.2.2.1 s106.2.2.2.1 s106.2.2.2.2.1) s106.2.2.2.2.2.1 s106.2.2.2.2.2.2.1 s106.2.2.2.2.2.2.2.1 (G2.mk s106.2.2.2.2.2.2.2.2.1 s106.2.2.2.2.2.2.2.2.2.1 s106.2.2.2.2.2.2.2.2.2.2.1 s106.2.2.2.2.2.2.2.2.2.2.2.1)) v113 v115 y106.Deck r127 hr127) J6f ⟨.aggL (cs:=[.vec 1041 s106.2.2.2.2.2.2.2.2.2.2.2.2.length 12 s106.2.2.2.2.2.2.2.2.2.2.2.2.length,OW 1042 2 G9.av s106.1,G0 s106.2.1,G0 s106.2.2.1,G0 s106.2.2.2.1,G0 s106.2.2.2.2.1,E3 s106.2.2.2.2.2.1,E4 s106.2.2.2.2.2.2.1,E5 s106.2.2.2.2.2.2.2.1,G0 s106.2.2.2.2.2.2.2.2.1,G0 s106.2.2.2.2.2.2.2.2.2.1,G0 s106.2.2.2.2.2.2.2.2.2.2.1,G0 s106.2.2.2.2.2.2.2.2.2.2.2.1]) (ds:=[E7 s106.2.2.2.2.2.2.2.2.2.2.2.2,E6 s106.1,G0 s106.2.1,G0 s106.2.2.1,G0 s106.2.2.2.1,G0 s106.2.2.2.2.1,E3 s106.2.2.2.2.2.1,E4 s106.2.2.2.2.2.2.1,E5 s106.2.2.2.2.2.2.2.1,G0 s106.2.2.2.2.2.2.2.2.1,G0 s106.2.2.2.2.2.2.2.2.2.1,G0 s106.2.2.2.2.2.2.2.2.2.2.1,G0 s106.2.2.2.2.2.2.2.2.2.2.2.1]) ⟨.vec O,.data O O,.data O O,.data O O,.data O O,.data O O,.data O O,.data O O,.data O O,.data O O,.data O O,.data O O,.data O O,G⟩,.data O O,.data O O,.data O O,G⟩ O) O (Qk (.tup [G0 r127.1,BL r127.2]) O (JLh (G0 r127.1) (H8 O O O) O (JLh (BL r127.2) (H8 O O O) O (Qk (G0 r127.1) O (Qk (BL r127.2) O (G7 (hK126 ?_)))))))
    refine Gt [(1,.sc (.int .u32 covers)),(4,.ptr 1037 0),(5,.ptr 1038 0),(8,.dptr [G0 v113,G0 v115,BL y106.Deck,G0 v118,G0 0,G0 500000000,G0 500000000,G0 0,E0 ([]:List Int),G0 v121,G0 v123,G0 j124]),(10,BL r127.2),(16,Eb (l.take m5)),(17,G0 ((l.take m5).length:Int)),(18,Ej i106)] [(1041,.vec 55 12 s106.2.2.2.2.2.2.2.2.2.2.2.2.length (s106.2.2.2.2.2.2.2.2.2.2.2.2.map G3.av)),(1042,.spare 70 2 s106.1.length s106.1.length),(1037,.box 36 [E7 ([]:List G3),E6 ([]:List G9),G0 0,G0 0,G0 0,G0 0,E3 ([]:List Row),E4 ([]:List Frame),E5 ([]:List Gg),G0 0,G0 0,G0 0,G0 0]),(1038,.box 36 [.vec 1041 s106.2.2.2.2.2.2.2.2.2.2.2.2.length 12 s106.2.2.2.2.2.2.2.2.2.2.2.2.length,OW 1042 2 G9.av s106.1,G0 s106.2.1,G0 s106.2.2.1,G0 s106.2.2.2.1,G0 s106.2.2.2.2.1,E3 s106.2.2.2.2.2.1,E4 s106.2.2.2.2.2.2.1,E5 s106.2.2.2.2.2.2.2.1,G0 s106.2.2.2.2.2.2.2.2.1,G0 s106.2.2.2.2.2.2.2.2.2.1,G0 s106.2.2.2.2.2.2.2.2.2.2.1,G0 s106.2.2.2.2.2.2.2.2.2.2.2.1])] 1040 rfl rfl rfl ⟨⟨_,rfl,.vec⟩,⟨_,rfl,.same⟩,⟨_,rfl,.boxEq rfl rfl⟩,⟨_,rfl,.boxEq rfl rfl⟩,G⟩ rfl (by repeat' (first | exact .ptr | constructor)) ?_
    refine Jr fun hK128=>(Qk (BL r127.2) O (JLh (BL (!r127.2)) (Zn (b:=r127.2) O O) O (G7 (hK128 (JCc O h (fun h hb=>?_) (fun h hb=>?_))))))
    ·
     refine G4 (JLh (.ptr 1038 0) (Jy Hk O O) O (JLh (.vec 1041 s106.2.2.2.2.2.2.2.2.2.2.2.2.length 12 s106.2.2.2.2.2.2.2.2.2.2.2.2.length) (R2 J2 O O O O) O (JLh (.agg [G0 v113,G0 v115,BL y106.Deck,G0 v118,G0 0,G0 500000000,G0 500000000,G0 0,E0 ([]:List Int),G0 v121,G0 v123,G0 j124]) (Gj G22 O O O) O (JLh (E7 ([(G3.mk v113 v115 y106.Deck v118 0 500000000 500000000 0 [] v121 v123 j124)])) (H4 (xs:=[.agg [G0 v113,G0 v115,BL y106.Deck,G0 v118,G0 0,G0 500000000,G0 500000000,G0 0,E0 ([]:List Int),G0 v121,G0 v123,G0 j124]]) O ⟨O,O,G⟩ Hq Zc O O O O) O ?_))))
     obtain⟨ha129,h⟩:=Jf h
     refine JLh (.vec 1041 ((s106.2.2.2.2.2.2.2.2.2.2.2.2++[(G3.mk v113 v115 y106.Deck v118 0 500000000 500000000 0 [] v121 v123 j124)]).length) 12 ((s106.2.2.2.2.2.2.2.2.2.2.2.2++[(G3.mk v113 v115 y106.Deck v118 0 500000000 500000000 0 [] v121 v123 j124)]).length)) (G40 (f:=G3.av) (xs:=s106.2.2.2.2.2.2.2.2.2.2.2.2) (ys:=[(G3.mk v113 v115 y106.Deck v118 0 500000000 500000000 0 [] v121 v123 j124)]) (ver:=s106.2.2.2.2.2.2.2.2.2.2.2.2.length) (ver1:=(s106.2.2.2.2.2.2.2.2.2.2.2.2++[(G3.mk v113 v115 y106.Deck v118 0 500000000 500000000 0 [] v121 v123 j124)]).length) rfl rfl rfl rfl Hq J5b ha129 (fun _=>rfl) (.inl rfl) (by simp)) O (JLh (.ptr 1038 0) (Jy Hk O O) O (J5 (u:=.junk) (Hp (u:=.vec 1041 ((s106.2.2.2.2.2.2.2.2.2.2.2.2++[(G3.mk v113 v115 y106.Deck v118 0 500000000 500000000 0 [] v121 v123 j124)]).length) 12 ((s106.2.2.2.2.2.2.2.2.2.2.2.2++[(G3.mk v113 v115 y106.Deck v118 0 500000000 500000000 0 [] v121 v123 j124)]).length)) (ds:=[.vec 1041 ((s106.2.2.2.2.2.2.2.2.2.2.2.2++[(G3.mk v113 v115 y106.Deck v118 0 500000000 500000000 0 [] v121 v123 j124)]).length) 12 ((s106.2.2.2.2.2.2.2.2.2.2.2.2++[(G3.mk v113 v115 y106.Deck v118 0 500000000 500000000 0 [] v121 v123 j124)]).length),OW 1042 2 G9.av s106.1,G0 s106.2.1,G0 s106.2.2.1,G0 s106.2.2.2.1,G0 s106.2.2.2.2.1,E3 s106.2.2.2.2.2.1,E4 s106.2.2.2.2.2.2.1,E5 s106.2.2.2.2.2.2.2.1,G0 s106.2.2.2.2.2.2.2.2.1,G0 s106.2.2.2.2.2.2.2.2.2.1,G0 s106.2.2.2.2.2.2.2.2.2.2.1,G0 s106.2.2.2.2.2.2.2.2.2.2.2.1]) Hc0 O O O O O O O O) (G7 ?_)))
     exact ej109 _ _ (s106.2.2.2.2.2.2.2.2.2.2.2.2++[(G3.mk v113 v115 y106.Deck v118 0 500000000 500000000 0 [] v121 v123 j124)]) h ⟨(by repeat' constructor),⟨⟨_,rfl,.vec⟩,⟨_,rfl,.same⟩,⟨_,rfl,.boxL rfl (by repeat' constructor)⟩,⟨_,rfl,.boxL rfl (by repeat' constructor)⟩,G⟩,rfl⟩
    ·
     refine Gs (ej109 _ _ s106.2.2.2.2.2.2.2.2.2.2.2.2 h ⟨(by repeat' constructor),⟨⟨_,rfl,.vec⟩,⟨_,rfl,.same⟩,⟨_,rfl,.boxL rfl (by repeat' constructor)⟩,⟨_,rfl,.boxL rfl (by repeat' constructor)⟩,G⟩,rfl⟩)
  ·intro j109 h
   replace h:=app1 hkj109 h
   refine G4 (JLh (G0 ((i106+1:Nat):Int)) (Hu (Hs hk106 hm17) O O O) O (Qk (G0 ((i106+1:Nat):Int)) O (G7 (e106 _ _ (i106+1) (s106.1,s106.2.1,s106.2.2.1,s106.2.2.2.1,s106.2.2.2.2.1,s106.2.2.2.2.2.1,s106.2.2.2.2.2.2.1,s106.2.2.2.2.2.2.2.1,s106.2.2.2.2.2.2.2.2.1,s106.2.2.2.2.2.2.2.2.2.1,s106.2.2.2.2.2.2.2.2.2.2.1,s106.2.2.2.2.2.2.2.2.2.2.2.1,j109) (app1 hn106 h) (by omega) ⟨(by repeat' constructor),⟨⟨_,rfl,.vec⟩,⟨_,rfl,.same⟩,⟨_,rfl,.boxL rfl (by repeat' constructor)⟩,⟨_,rfl,.boxL rfl (by repeat' constructor)⟩,G⟩,rfl⟩))))
 ·
  have h:=app1 hkx106 (J4 hi106 (Hh hb))
  refine J9 (hK3 ?_)
  obtain⟨kj130,hkj130,h⟩:=Z8 h
  refine Ry (fun j130:(List G3)=>kj130 j130=some r) (fun j130=>[(1,.sc (.int .u32 covers)),(4,.ptr 1037 0),(5,.ptr 1038 0)]) (fun j130=>[(1041,.vec 55 12 j130.length (j130.map G3.av)),(1042,.spare 70 2 s106.1.length s106.1.length),(1037,.box 36 [E7 ([]:List G3),E6 ([]:List G9),G0 0,G0 0,G0 0,G0 0,E3 ([]:List Row),E4 ([]:List Frame),E5 ([]:List Gg),G0 0,G0 0,G0 0,G0 0]),(1038,.box 36 [.vec 1041 j130.length 12 j130.length,OW 1042 2 G9.av s106.1,G0 s106.2.1,G0 s106.2.2.1,G0 s106.2.2.2.1,G0 s106.2.2.2.2.1,E3 s106.2.2.2.2.2.1,E4 s106.2.2.2.2.2.2.1,E5 s106.2.2.2.2.2.2.2.1,G0 s106.2.2.2.2.2.2.2.2.1,G0 s106.2.2.2.2.2.2.2.2.2.1,G0 s106.2.2.2.2.2.2.2.2.2.2.1,G0 s106.2.2.2.2.2.2.2.2.2.2.2.1])]) (fun Kj130 ej130=>?_) ?_
  ·
   refine Jr fun hK131=>(JLh (.ptr 1038 0) (Jy Hk O O) O (JLh (.vec 1041 s106.2.2.2.2.2.2.2.2.2.2.2.2.length 12 s106.2.2.2.2.2.2.2.2.2.2.2.2.length) (R2 J2 O O O O) O (J40 (f:=G3.av) (xs:=s106.2.2.2.2.2.2.2.2.2.2.2.2) Hq O O O (fun hm74=>?_) O O O)))
   refine JLh (BL (decide ((s106.2.2.2.2.2.2.2.2.2.2.2.2.length:Int)=0))) (Jz O O O) O (G7 (hK131 (JCc O h (fun h hb=>?_) (fun h hb=>?_))))
   ·
    refine G4 ?_
    refine JLh (.agg [G0 0,G0 0,BL false,G0 3,G0 0,G0 500000000,G0 500000000,G0 0,E0 ([]:List Int),G0 0,G0 0,G0 2000]) (Ho (cs:=[G0 0,G0 0,BL false,G0 3,G0 0,G0 500000000,G0 500000000,G0 0,E0 ([]:List Int),G0 0,G0 0,G0 2000]) [(0,1),(1,1),(2,1),(3,1),(4,1),(5,1),(6,1),(7,1),(8,1),(9,1),(10,1),(11,1)] [G0 0,G0 0,BL false,G0 0,G0 0,G0 0,G0 0,G0 0,E0 ([]:List Int),G0 0,G0 0,G0 0] [.int .i64 0,.int .i64 0,.bool false,.int .i64 0,.int .i64 0,.int .i64 0,.int .i64 0,.int .i64 0,.slice none 0 0,.int .i64 0,.int .i64 0,.int .i64 0] Yt G1a ⟨.inl O,.inl O,.inl O,.inl O,.inl O,.inl O,.inl O,.inl O,.inr ⟨_,O,O⟩,.inl O,.inl O,.inl O,G⟩ O O) O (JLh (.vec 1041 (([(G3.mk 0 0 false 3 0 500000000 500000000 0 [] 0 0 2000)]).length) 12 (([(G3.mk 0 0 false 3 0 500000000 500000000 0 [] 0 0 2000)]).length)) (A_litVecM 1041 (f:=G3.av) ([(G3.mk 0 0 false 3 0 500000000 500000000 0 [] 0 0 2000)]) (ver1:=([(G3.mk 0 0 false 3 0 500000000 500000000 0 [] 0 0 2000)]).length) rfl ⟨rfl,rfl,G⟩ Hq Zc rfl rfl rfl rfl rfl (by have hb_:=of_decide_eq_true hb; simp only [List.length_cons,List.length_nil]; omega)) O (JLh (.ptr 1038 0) (Jy Hk O O) O (J5 (u:=.junk) (Hp (u:=.vec 1041 (([(G3.mk 0 0 false 3 0 500000000 500000000 0 [] 0 0 2000)]).length) 12 (([(G3.mk 0 0 false 3 0 500000000 500000000 0 [] 0 0 2000)]).length)) (ds:=[.vec 1041 (([(G3.mk 0 0 false 3 0 500000000 500000000 0 [] 0 0 2000)]).length) 12 (([(G3.mk 0 0 false 3 0 500000000 500000000 0 [] 0 0 2000)]).length),OW 1042 2 G9.av s106.1,G0 s106.2.1,G0 s106.2.2.1,G0 s106.2.2.2.1,G0 s106.2.2.2.2.1,E3 s106.2.2.2.2.2.1,E4 s106.2.2.2.2.2.2.1,E5 s106.2.2.2.2.2.2.2.1,G0 s106.2.2.2.2.2.2.2.2.1,G0 s106.2.2.2.2.2.2.2.2.2.1,G0 s106.2.2.2.2.2.2.2.2.2.2.1,G0 s106.2.2.2.2.2.2.2.2.2.2.2.1]) Hc0 O O O O O O O O) (G7 ?_))))
    exact ej130 _ _ ([(G3.mk 0 0 false 3 0 500000000 500000000 0 [] 0 0 2000)]) h ⟨⟨.same rfl,.same rfl,.same rfl,G⟩,⟨⟨_,rfl,.vec⟩,⟨_,rfl,.same⟩,⟨_,rfl,.boxL rfl (by repeat' constructor)⟩,⟨_,rfl,.boxL rfl (by repeat' constructor)⟩,G⟩,rfl⟩
   ·
    refine Gs (ej130 _ _ s106.2.2.2.2.2.2.2.2.2.2.2.2 h ⟨⟨.same rfl,.same rfl,.same rfl,G⟩,⟨⟨_,rfl,.vec⟩,⟨_,rfl,.same⟩,⟨_,rfl,.boxL rfl (by repeat' constructor)⟩,⟨_,rfl,.boxL rfl (by repeat' constructor)⟩,G⟩,rfl⟩)
  ·intro j130 h
   replace h:=app1 hkj130 h
   refine Js fun hK132=>Jr fun hK133=>(Qk (G0 0) O (G7 (hK133 (Gx ?_))))
   obtain⟨hx200,h⟩:=Jf h
   obtain⟨b200,kx200,hb200,hkx200,h⟩:=upto_in h
   refine Hz (fun i200 (s200:(List G9)×Int×Int×Int×Int×(List Row)×(List Frame)×(List Gg)×Int×Int×Int×Int)=>upto b200 kx200 ((5:Int).toNat - i200) i200 s200=some r) (fun i200 s200=>[(1,.sc (.int .u32 covers)),(4,.ptr 1037 0),(5,.ptr 1038 0),(11,Ej i200)]) (fun i200 s200=>[(1041,.vec 55 12 j130.length (j130.map G3.av)),(1042,.spare 70 2 s200.1.length s200.1.length),(1037,.box 36 [E7 ([]:List G3),E6 ([]:List G9),G0 0,G0 0,G0 0,G0 0,E3 ([]:List Row),E4 ([]:List Frame),E5 ([]:List Gg),G0 0,G0 0,G0 0,G0 0]),(1038,.box 36 [.vec 1041 j130.length 12 j130.length,OW 1042 2 G9.av s200.1,G0 s200.2.1,G0 s200.2.2.1,G0 s200.2.2.2.1,G0 s200.2.2.2.2.1,E3 s200.2.2.2.2.2.1,E4 s200.2.2.2.2.2.2.1,E5 s200.2.2.2.2.2.2.2.1,G0 s200.2.2.2.2.2.2.2.2.1,G0 s200.2.2.2.2.2.2.2.2.2.1,G0 s200.2.2.2.2.2.2.2.2.2.2.1,G0 s200.2.2.2.2.2.2.2.2.2.2.2])]) (fun i200=>(5:Int).toNat - i200) 0 (s106.1,s106.2.1,s106.2.2.1,s106.2.2.2.1,s106.2.2.2.2.1,s106.2.2.2.2.2.1,s106.2.2.2.2.2.2.1,s106.2.2.2.2.2.2.2.1,s106.2.2.2.2.2.2.2.2.1,s106.2.2.2.2.2.2.2.2.2.1,s106.2.2.2.2.2.2.2.2.2.2.1,s106.2.2.2.2.2.2.2.2.2.2.2.1) h ⟨(by repeat' constructor),⟨⟨_,rfl,.vec⟩,⟨_,rfl,.same⟩,⟨_,rfl,.boxL rfl (by repeat' constructor)⟩,⟨_,rfl,.boxL rfl (by repeat' constructor)⟩,G⟩,rfl⟩ ?_
   clear h
   intro i200 s200 hi200 K200 e200
   refine Js fun hK201=>Jr fun hK202=>(Qk (Ej i200) O (JLh (BL (decide ((i200:Int) < 5))) (Jm O O O) O (G7 (hK202 (Gm O (fun hb=>?_) (fun hb=>?_))))))
   ·
    have hk200:=Hf1 hb
    obtain⟨nx200,hn200,h⟩:=Hbb hi200 hk200
    replace h:=app3 hb200 h
    refine Gs (hK201 ?_)
    obtain⟨kj203,hkj203,h⟩:=Z8 h
    refine Ry (fun j203:(List G9)=>kj203 j203=some r) (fun j203=>[(1,.sc (.int .u32 covers)),(4,.ptr 1037 0),(5,.ptr 1038 0),(11,Ej i200)]) (fun j203=>[(1041,.vec 55 12 j130.length (j130.map G3.av)),(1042,.spare 70 2 j203.length j203.length),(1037,.box 36 [E7 ([]:List G3),E6 ([]:List G9),G0 0,G0 0,G0 0,G0 0,E3 ([]:List Row),E4 ([]:List Frame),E5 ([]:List Gg),G0 0,G0 0,G0 0,G0 0]),(1038,.box 36 [.vec 1041 j130.length 12 j130.length,OW 1042 2 G9.av j203,G0 s200.2.1,G0 s200.2.2.1,G0 s200.2.2.2.1,G0 s200.2.2.2.2.1,E3 s200.2.2.2.2.2.1,E4 s200.2.2.2.2.2.2.1,E5 s200.2.2.2.2.2.2.2.1,G0 s200.2.2.2.2.2.2.2.2.1,G0 s200.2.2.2.2.2.2.2.2.2.1,G0 s200.2.2.2.2.2.2.2.2.2.2.1,G0 s200.2.2.2.2.2.2.2.2.2.2.2])]) (fun Kj203 ej203=>?_) ?_
    ·
     refine Gx ?_
     obtain⟨kj204,hkj204,h⟩:=Z8 h
     refine Ry (fun j204:(List G9)=>kj204 j204=some r) (fun j204=>[(1,.sc (.int .u32 covers)),(4,.ptr 1037 0),(5,.ptr 1038 0),(11,Ej i200)]) (fun j204=>[(1041,.vec 55 12 j130.length (j130.map G3.av)),(1042,.spare 70 2 j204.length j204.length),(1037,.box 36 [E7 ([]:List G3),E6 ([]:List G9),G0 0,G0 0,G0 0,G0 0,E3 ([]:List Row),E4 ([]:List Frame),E5 ([]:List Gg),G0 0,G0 0,G0 0,G0 0]),(1038,.box 36 [.vec 1041 j130.length 12 j130.length,OW 1042 2 G9.av j204,G0 s200.2.1,G0 s200.2.2.1,G0 s200.2.2.2.1,G0 s200.2.2.2.2.1,E3 s200.2.2.2.2.2.1,E4 s200.2.2.2.2.2.2.1,E5 s200.2.2.2.2.2.2.2.1,G0 s200.2.2.2.2.2.2.2.2.1,G0 s200.2.2.2.2.2.2.2.2.2.1,G0 s200.2.2.2.2.2.2.2.2.2.2.1,G0 s200.2.2.2.2.2.2.2.2.2.2.2])]) (fun Kj204 ej204=>?_) ?_
     ·
      refine Jr fun hK205=>(Qk (.sc (.int .u32 covers)) O (Qk (Ej i200) O ?_))
      obtain⟨v206,hv206,h⟩:=Je h
      refine JLh (G0 v206) (J27 hv206 O O O) O ?_
      obtain⟨m207,hm207,h⟩:=Gf h
      refine JLh (.sc (.int .u32 (Gcf .u32 covers m207))) (J11 (s:=m207) (G3c hm207).1 O O O) O (JLh (.sc (.int .u32 (H61 .u32 (Gcf .u32 covers m207) 1))) (J32 O O O) O (JLh (BL (decide ((H61 .u32 (Gcf .u32 covers m207) 1)=1))) (Jz O O O) O (G7 (hK205 (JCc O h (fun h hb=>?_) (fun h hb=>?_))))))
      ·
       refine G4 (JLh (.ptr 1038 1) (Jy Qc O O) O (JLh (OW 1042 2 G9.av s200.1) (R2 Rh O O O O) O (Qk (Ej i200) O (JLh (E0 [0,1]) (H4 (xs:=[G0 0,G0 1]) O ⟨O,O,O,O,G⟩ Gh Jj O O O O) O (JLh (.agg [Ej i200,E0 [0,1]]) (Ho (cs:=[Ej i200,E0 [0,1]]) [(0,1),(1,1)] [G0 0,E0 ([]:List Int)] [.int .i64 0,.slice none 0 0] Gc9 H2a ⟨.inl O,.inr ⟨_,O,O⟩,G⟩ O O) O (JLh (E6 ([(G9.mk (i200:Int) [0,1])])) (H4 (xs:=[.agg [Ej i200,E0 [0,1]]]) O ⟨O,O,G⟩ Q6 G4d O O O O) O ?_))))))
       obtain⟨ha208,h⟩:=Jf h
       refine JLh (OW 1042 2 G9.av (s200.1++[(G9.mk (i200:Int) [0,1])])) (Y2 (f:=G9.av) (xs:=s200.1) (ys:=[(G9.mk (i200:Int) [0,1])]) O O O O Q6 Hc8 ha208 (fun _=>O) (.inl O) O) O (JLh (.ptr 1038 1) (Jy Qc O O) O (J5 (u:=.junk) (Hp (u:=OW 1042 2 G9.av (s200.1++[(G9.mk (i200:Int) [0,1])])) (ds:=[.vec 1041 j130.length 12 j130.length,OW 1042 2 G9.av (s200.1++[(G9.mk (i200:Int) [0,1])]),G0 s200.2.1,G0 s200.2.2.1,G0 s200.2.2.2.1,G0 s200.2.2.2.2.1,E3 s200.2.2.2.2.2.1,E4 s200.2.2.2.2.2.2.1,E5 s200.2.2.2.2.2.2.2.1,G0 s200.2.2.2.2.2.2.2.2.1,G0 s200.2.2.2.2.2.2.2.2.2.1,G0 s200.2.2.2.2.2.2.2.2.2.2.1,G0 s200.2.2.2.2.2.2.2.2.2.2.2]) Hbf O O O O O O O O) (G7 ?_)))
       exact ej204 _ _ (s200.1++[(G9.mk (i200:Int) [0,1])]) h ⟨(by repeat' constructor),⟨⟨_,rfl,.vec⟩,⟨_,rfl,.same⟩,⟨_,rfl,.boxL rfl (by repeat' constructor)⟩,⟨_,rfl,.boxL rfl (by repeat' constructor)⟩,G⟩,rfl⟩
      ·
       refine Gs (ej204 _ _ s200.1 h ⟨(by repeat' constructor),⟨⟨_,rfl,.vec⟩,⟨_,rfl,.same⟩,⟨_,rfl,.boxL rfl (by repeat' constructor)⟩,⟨_,rfl,.boxL rfl (by repeat' constructor)⟩,G⟩,rfl⟩)
     ·intro j204 h
      replace h:=app1 hkj204 h
      refine Jr fun hK209=>(Qk (.sc (.int .u32 covers)) O (Qk (Ej i200) O ?_))
      obtain⟨v210,hv210,h⟩:=Je h
      refine JLh (G0 v210) (J27 hv210 O O O) O ?_
      obtain⟨v211,hv211,h⟩:=Je h
      refine JLh (G0 v211) (Hu hv211 O O O) O ?_
      obtain⟨m212,hm212,h⟩:=Gf h
      refine JLh (.sc (.int .u32 (Gcf .u32 covers m212))) (J11 (s:=m212) (G3c hm212).1 O O O) O (JLh (.sc (.int .u32 (H61 .u32 (Gcf .u32 covers m212) 1))) (J32 O O O) O (JLh (BL (decide ((H61 .u32 (Gcf .u32 covers m212) 1)=1))) (Jz O O O) O (G7 (hK209 (JCc O h (fun h hb=>?_) (fun h hb=>?_))))))
      ·
       refine G4 (JLh (.ptr 1038 1) (Jy Qc O O) O (JLh (OW 1042 2 G9.av j204) (R2 Rh O O O O) O (Qk (Ej i200) O (JLh (E0 [2,3,4]) (H4 (xs:=[G0 2,G0 3,G0 4]) O ⟨O,O,O,O,O,O,G⟩ Gh Jj O O O O) O (JLh (.agg [Ej i200,E0 [2,3,4]]) (Ho (cs:=[Ej i200,E0 [2,3,4]]) [(0,1),(1,1)] [G0 0,E0 ([]:List Int)] [.int .i64 0,.slice none 0 0] Gc9 H2a ⟨.inl O,.inr ⟨_,O,O⟩,G⟩ O O) O (JLh (E6 ([(G9.mk (i200:Int) [2,3,4])])) (H4 (xs:=[.agg [Ej i200,E0 [2,3,4]]]) O ⟨O,O,G⟩ Q6 G4d O O O O) O ?_))))))
       obtain⟨ha213,h⟩:=Jf h
       refine JLh (OW 1042 2 G9.av (j204++[(G9.mk (i200:Int) [2,3,4])])) (Y2 (f:=G9.av) (xs:=j204) (ys:=[(G9.mk (i200:Int) [2,3,4])]) O O O O Q6 Hc8 ha213 (fun _=>O) (.inl O) O) O (JLh (.ptr 1038 1) (Jy Qc O O) O (J5 (u:=.junk) (Hp (u:=OW 1042 2 G9.av (j204++[(G9.mk (i200:Int) [2,3,4])])) (ds:=[.vec 1041 j130.length 12 j130.length,OW 1042 2 G9.av (j204++[(G9.mk (i200:Int) [2,3,4])]),G0 s200.2.1,G0 s200.2.2.1,G0 s200.2.2.2.1,G0 s200.2.2.2.2.1,E3 s200.2.2.2.2.2.1,E4 s200.2.2.2.2.2.2.1,E5 s200.2.2.2.2.2.2.2.1,G0 s200.2.2.2.2.2.2.2.2.1,G0 s200.2.2.2.2.2.2.2.2.2.1,G0 s200.2.2.2.2.2.2.2.2.2.2.1,G0 s200.2.2.2.2.2.2.2.2.2.2.2]) Hbf O O O O O O O O) (G7 ?_)))
       exact ej203 _ _ (j204++[(G9.mk (i200:Int) [2,3,4])]) h ⟨(by repeat' constructor),⟨⟨_,rfl,.vec⟩,⟨_,rfl,.same⟩,⟨_,rfl,.boxL rfl (by repeat' constructor)⟩,⟨_,rfl,.boxL rfl (by repeat' constructor)⟩,G⟩,rfl⟩
      ·
       refine Gs (ej203 _ _ j204 h ⟨(by repeat' constructor),⟨⟨_,rfl,.vec⟩,⟨_,rfl,.same⟩,⟨_,rfl,.boxL rfl (by repeat' constructor)⟩,⟨_,rfl,.boxL rfl (by repeat' constructor)⟩,G⟩,rfl⟩)
    ·intro j203 h
     replace h:=app1 hkj203 h
     refine G4 (Qk (Ej i200) O (JLh (G0 ((i200+1:Nat):Int)) (Hu (Hs hk200 (H6e hx200)) O O O) O (Qk (G0 ((i200+1:Nat):Int)) O (G7 (e200 _ _ (i200+1) (j203,s200.2.1,s200.2.2.1,s200.2.2.2.1,s200.2.2.2.2.1,s200.2.2.2.2.2.1,s200.2.2.2.2.2.2.1,s200.2.2.2.2.2.2.2.1,s200.2.2.2.2.2.2.2.2.1,s200.2.2.2.2.2.2.2.2.2.1,s200.2.2.2.2.2.2.2.2.2.2.1,s200.2.2.2.2.2.2.2.2.2.2.2) (app1 hn200 h) (by omega) ⟨(by repeat' constructor),⟨⟨_,rfl,.vec⟩,⟨_,rfl,.same⟩,⟨_,rfl,.boxL rfl (by repeat' constructor)⟩,⟨_,rfl,.boxL rfl (by repeat' constructor)⟩,G⟩,rfl⟩)))))
   ·
    have h:=app1 hkx200 (Hbc hi200 (Gd4 hb))
    refine J9 (hK132 ?_)
    refine Jr fun hK214=>(JLh (.agg [.vec 1041 j130.length 12 j130.length,OW 1042 2 G9.av s200.1,G0 s200.2.1,G0 s200.2.2.1,G0 s200.2.2.2.1,G0 s200.2.2.2.2.1,E3 s200.2.2.2.2.2.1,E4 s200.2.2.2.2.2.2.1,E5 s200.2.2.2.2.2.2.2.1,G0 s200.2.2.2.2.2.2.2.2.1,G0 s200.2.2.2.2.2.2.2.2.2.1,G0 s200.2.2.2.2.2.2.2.2.2.2.1,G0 s200.2.2.2.2.2.2.2.2.2.2.2]) (Gdf Hd O O O O) O (J5 (u:=.junk) (Hp (u:=.agg [.vec 1041 j130.length 12 j130.length,OW 1042 2 G9.av s200.1,G0 s200.2.1,G0 s200.2.2.1,G0 s200.2.2.2.1,G0 s200.2.2.2.2.1,E3 s200.2.2.2.2.2.1,E4 s200.2.2.2.2.2.2.1,E5 s200.2.2.2.2.2.2.2.1,G0 s200.2.2.2.2.2.2.2.2.1,G0 s200.2.2.2.2.2.2.2.2.2.1,G0 s200.2.2.2.2.2.2.2.2.2.2.1,G0 s200.2.2.2.2.2.2.2.2.2.2.2]) (ds:=[.vec 1041 j130.length 12 j130.length,OW 1042 2 G9.av s200.1,G0 s200.2.1,G0 s200.2.2.1,G0 s200.2.2.2.1,G0 s200.2.2.2.2.1,E3 s200.2.2.2.2.2.1,E4 s200.2.2.2.2.2.2.1,E5 s200.2.2.2.2.2.2.2.1,G0 s200.2.2.2.2.2.2.2.2.1,G0 s200.2.2.2.2.2.2.2.2.2.1,G0 s200.2.2.2.2.2.2.2.2.2.2.1,G0 s200.2.2.2.2.2.2.2.2.2.2.2]) G3a O O O O O O O O) (G7 (hK214 ?_))))
    refine Gu ?_
    obtain rfl:=Option.some.inj h
    exact⟨[.agg [.vec 1041 j130.length 12 j130.length,E6 s200.1,G0 s200.2.1,G0 s200.2.2.1,G0 s200.2.2.2.1,G0 s200.2.2.2.2.1,E3 s200.2.2.2.2.2.1,E4 s200.2.2.2.2.2.2.1,E5 s200.2.2.2.2.2.2.2.1,G0 s200.2.2.2.2.2.2.2.2.1,G0 s200.2.2.2.2.2.2.2.2.2.1,G0 s200.2.2.2.2.2.2.2.2.2.2.1,G0 s200.2.2.2.2.2.2.2.2.2.2.2]],[(1041,.vec 55 12 j130.length (j130.map G3.av))],⟨⟨_,O,.vec⟩,G⟩,O,⟨⟨_,⟨_,_,_,_,O,O,O,.inl ⟨Hd,O⟩⟩,.agg ⟨.same O,.list O,.same O,.same O,.same O,.same O,.same O,.same O,.same O,.same O,.same O,.same O,.same O,G⟩⟩,G⟩,j130.length,O,O⟩

def Qd (l:List H0) (covers:Int):Option Gw:=
 bnd (Qq l covers) fun r3=>
 each (fun y39 i39 (s39:(List G3)) nx39=>
  jp (fun kj42=>
   bnd (H20 (i39:Int) 20) fun v45=>
   Zf (10+v45) fun v46=>
   bnd (Gf0 v46 4294967295) fun m47=>
   bif decide ((H61 .u32 (Gcf .u32 covers m47) 1)=1) then
   (Yj s39 (i39:Int) fun y48=>
    kj42 (s39.set (i39:Int).toNat (G3.mk y48.Bay y48.Row y48.Deck y48.Tiers 8000 y48.Kilos20 y48.Kilos40 y48.Lash y48.Plugs y48.X y48.Y y48.Z)))
   else
   (kj42 s39)) fun(j42:(List G3))=>
  nx39 j42)
 (fun(s39:(List G3))=>
  some (Gw.mk s39 r3.Covers r3.Light r3.Rows r3.Frames r3.Tanks r3.G2)) r3.Columns 0 r3.Columns
theorem G8e (l:List H0) (covers:Int) (r:Gw) (h:Qd l covers=some r):Pure Ek 7 [Eb l,.sc (.int .u32 covers)] (·=.agg (Gw.cs r)):=by
 unfold Qd at h
 refine H1 [.cell 4 36] Tryz.func7 O O (Jr fun hK1=>(JLh (.ptr 1008 0) (G98 1008 [E7 ([]:List G3),E6 ([]:List G9),G0 0,G0 0,G0 0,G0 0,E3 ([]:List Row),E4 ([]:List Frame),E5 ([]:List Gg),G0 0,G0 0,G0 0,G0 0] [.slice none 0 0,.slice none 0 0,.int .i64 0,.int .i64 0,.int .i64 0,.int .i64 0,.slice none 0 0,.slice none 0 0,.slice none 0 0,.int .i64 0,.int .i64 0,.int .i64 0,.int .i64 0] G7d ⟨.inr ⟨_,O,O⟩,.inr ⟨_,O,O⟩,.inl O,.inl O,.inl O,.inl O,.inr ⟨_,O,O⟩,.inr ⟨_,O,O⟩,.inr ⟨_,O,O⟩,.inl O,.inl O,.inl O,.inl O,G⟩ O O) O (G7 (hK1 (Jr fun hK2=>(Qk (Eb l) O (Qk (.sc (.int .u32 covers)) O ?_)))))))
 obtain⟨r3,hr3,h⟩:=Gf h
 refine Ga6 O O O (A_callLE (args:=[Eb l,.sc (.int .u32 covers)]) (L0:=[]) (u:=fun p=>.agg [.vec 1041 p 12 r3.Columns.length,E6 r3.Covers,G0 r3.Light.Kilos,G0 r3.Light.X,G0 r3.Light.Y,G0 r3.Light.Z,E3 r3.Rows,E4 r3.Frames,E5 r3.Tanks,G0 r3.G2.Tolerance,G0 r3.G2.Trim,G0 r3.G2.List_,G0 r3.G2.Stability]) (Lr:=fun p=>[(1041,.vec 55 12 p (r3.Columns.map G3.av))]) O (Gad l covers r3 hr3) J7c ⟨.inl O,O,.inl O,O,G⟩ G O (fun _=>O)) ?_
 rintro u_ L_ ⟨v4,rfl,rfl⟩
 refine JLh (.ptr 1009 0) (Jd 1009 13 Ge7 O O) O (J5 (u:=.junk) (Hp (u:=.agg [.vec 1041 v4 12 r3.Columns.length,E6 r3.Covers,G0 r3.Light.Kilos,G0 r3.Light.X,G0 r3.Light.Y,G0 r3.Light.Z,E3 r3.Rows,E4 r3.Frames,E5 r3.Tanks,G0 r3.G2.Tolerance,G0 r3.G2.Trim,G0 r3.G2.List_,G0 r3.G2.Stability]) (ds:=[.vec 1041 v4 12 r3.Columns.length,E6 r3.Covers,G0 r3.Light.Kilos,G0 r3.Light.X,G0 r3.Light.Y,G0 r3.Light.Z,E3 r3.Rows,E4 r3.Frames,E5 r3.Tanks,G0 r3.G2.Tolerance,G0 r3.G2.Trim,G0 r3.G2.List_,G0 r3.G2.Stability]) G3a O O O O O O O O) (G7 (hK2 (Js fun hK5=>?_))))
 refine Jr fun hK6=>(JLh (.ptr 1009 0) (Jy Hk O O) O (JLh (.vec 1041 v4 12 r3.Columns.length) (R2 J2 O O O O) O (J40 (f:=G3.av) (xs:=r3.Columns) Hq O O O (fun hm12=>?_) O O O)))
 refine Qk (G0 0) O (G7 (hK6 (Gx ?_)))
 obtain⟨b39,kx39,hb39,hkx39,h⟩:=Jh h
 refine Hz (fun i39 (s39:(List G3))=>each b39 kx39 (List.drop i39 r3.Columns) i39 s39=some r) (fun i39 s39=>[(1,.sc (.int .u32 covers)),(4,.ptr 1008 0),(5,.ptr 1009 0),(12,Ej r3.Columns.length),(13,Ej i39)]) (fun i39 s39=>[(1041,.vec 55 12 v4 (s39.map G3.av)),(1008,.box 36 [E7 ([]:List G3),E6 ([]:List G9),G0 0,G0 0,G0 0,G0 0,E3 ([]:List Row),E4 ([]:List Frame),E5 ([]:List Gg),G0 0,G0 0,G0 0,G0 0]),(1009,.box 36 [.vec 1041 v4 12 r3.Columns.length,E6 r3.Covers,G0 r3.Light.Kilos,G0 r3.Light.X,G0 r3.Light.Y,G0 r3.Light.Z,E3 r3.Rows,E4 r3.Frames,E5 r3.Tanks,G0 r3.G2.Tolerance,G0 r3.G2.Trim,G0 r3.G2.List_,G0 r3.G2.Stability])]) (fun i39=>r3.Columns.length - i39) 0 r3.Columns h ⟨(by repeat' constructor),⟨⟨_,rfl,.vec⟩,⟨_,rfl,.boxL rfl (by repeat' constructor)⟩,⟨_,rfl,.boxL rfl (by repeat' constructor)⟩,G⟩,rfl⟩ ?_
 clear h
 intro i39 s39 hi39 K39 e39
 refine Jr fun hK40=>(JLh (BL (decide ((i39:Int) < (r3.Columns.length:Int)))) (Jm O O O) O (G7 (hK40 (Js fun hK41=>Gm O (fun hb=>?_) (fun hb=>?_)))))
 ·
  have hk39:=Q4 hb
  obtain⟨y39,nx39,hy39,hn39,h⟩:=J3 hi39 hk39
  replace h:=Zv hb39 h
  refine Gs (hK41 ?_)
  obtain⟨kj42,hkj42,h⟩:=Z8 h
  refine Ry (fun j42:(List G3)=>kj42 j42=some r) (fun j42=>[(1,.sc (.int .u32 covers)),(4,.ptr 1008 0),(5,.ptr 1009 0),(12,Ej r3.Columns.length),(13,Ej i39)]) (fun j42=>[(1041,.vec 55 12 v4 (j42.map G3.av)),(1008,.box 36 [E7 ([]:List G3),E6 ([]:List G9),G0 0,G0 0,G0 0,G0 0,E3 ([]:List Row),E4 ([]:List Frame),E5 ([]:List Gg),G0 0,G0 0,G0 0,G0 0]),(1009,.box 36 [.vec 1041 v4 12 r3.Columns.length,E6 r3.Covers,G0 r3.Light.Kilos,G0 r3.Light.X,G0 r3.Light.Y,G0 r3.Light.Z,E3 r3.Rows,E4 r3.Frames,E5 r3.Tanks,G0 r3.G2.Tolerance,G0 r3.G2.Trim,G0 r3.G2.List_,G0 r3.G2.Stability])]) (fun Kj42 ej42=>?_) ?_
  ·
   refine Gx (Jr fun hK43=>(Qk (Ej i39) O (Qk (Ej i39) O (G7 (hK43 (Jr fun hK44=>(Qk (.sc (.int .u32 covers)) O (Qk (Ej i39) O ?_))))))))
   obtain⟨v45,hv45,h⟩:=Gf h
   refine JLh (G0 v45) (J26 (Y0 hv45).1 (Y0 hv45).2 O O O) O ?_
   obtain⟨v46,hv46,h⟩:=Je h
   refine JLh (G0 v46) (Hu hv46 O O O) O ?_
   obtain⟨m47,hm47,h⟩:=Gf h
   refine JLh (.sc (.int .u32 (Gcf .u32 covers m47))) (J11 (s:=m47) (G3c hm47).1 O O O) O (JLh (.sc (.int .u32 (H61 .u32 (Gcf .u32 covers m47) 1))) (J32 O O O) O (JLh (BL (decide ((H61 .u32 (Gcf .u32 covers m47) 1)=1))) (Jz O O O) O (G7 (hK44 (JCc O h (fun h hb=>?_) (fun h hb=>?_))))))
   ·
    refine G4 (JLh (.ptr 1009 0) (Jy Hk O O) O (JLh (.vec 1041 v4 12 r3.Columns.length) (R2 J2 O O O O) O (Qk (Ej i39) O ?_)))
    obtain⟨y48,hmy48,hy48,h⟩:=gidx_outT h
    refine JLh (.vptr 1041 v4 ((i39:Int).toNat) 0) (A_vidxM (f:=G3.av) (xs:=s39) (y:=y48) O O O O Hq hy48 hmy48) O (JLh (.vptr 1041 v4 ((i39:Int).toNat) 4) (A_vfield Gaa O O O) O (J5 (u:=.junk) (A_vstoreF (f:=G3.av) (xs:=s39) (e:=y48) (z:=(G3.mk y48.Bay y48.Row y48.Deck y48.Tiers 8000 y48.Kilos20 y48.Kilos40 y48.Lash y48.Plugs y48.X y48.Y y48.Z)) (u:=G0 8000) Gb2 O O O O hy48 O O O O O) (G7 (ej42 _ _ (s39.set (i39:Int).toNat (G3.mk y48.Bay y48.Row y48.Deck y48.Tiers 8000 y48.Kilos20 y48.Kilos40 y48.Lash y48.Plugs y48.X y48.Y y48.Z)) h ⟨(by repeat' constructor),⟨⟨_,rfl,.vec⟩,⟨_,rfl,.boxL rfl (by repeat' constructor)⟩,⟨_,rfl,.boxL rfl (by repeat' constructor)⟩,G⟩,rfl⟩))))
   ·
    refine Gs (ej42 _ _ s39 h ⟨(by repeat' constructor),⟨⟨_,rfl,.vec⟩,⟨_,rfl,.boxL rfl (by repeat' constructor)⟩,⟨_,rfl,.boxL rfl (by repeat' constructor)⟩,G⟩,rfl⟩)
  ·intro j42 h
   replace h:=app1 hkj42 h
   refine G4 (JLh (G0 ((i39+1:Nat):Int)) (Hu (Hs hk39 hm12) O O O) O (Qk (G0 ((i39+1:Nat):Int)) O (G7 (e39 _ _ (i39+1) j42 (app1 hn39 h) (by omega) ⟨(by repeat' constructor),⟨⟨_,rfl,.vec⟩,⟨_,rfl,.boxL rfl (by repeat' constructor)⟩,⟨_,rfl,.boxL rfl (by repeat' constructor)⟩,G⟩,rfl⟩))))
 ·
  have h:=app1 hkx39 (J4 hi39 (Hh hb))
  refine J9 (hK5 ?_)
  refine Jr fun hK49=>(JLh (.agg [.vec 1041 v4 12 r3.Columns.length,E6 r3.Covers,G0 r3.Light.Kilos,G0 r3.Light.X,G0 r3.Light.Y,G0 r3.Light.Z,E3 r3.Rows,E4 r3.Frames,E5 r3.Tanks,G0 r3.G2.Tolerance,G0 r3.G2.Trim,G0 r3.G2.List_,G0 r3.G2.Stability]) (Gdf Hd O O O O) O (J5 (u:=.junk) (Hp (u:=.agg [.vec 1041 v4 12 r3.Columns.length,E6 r3.Covers,G0 r3.Light.Kilos,G0 r3.Light.X,G0 r3.Light.Y,G0 r3.Light.Z,E3 r3.Rows,E4 r3.Frames,E5 r3.Tanks,G0 r3.G2.Tolerance,G0 r3.G2.Trim,G0 r3.G2.List_,G0 r3.G2.Stability]) (ds:=[.vec 1041 v4 12 r3.Columns.length,E6 r3.Covers,G0 r3.Light.Kilos,G0 r3.Light.X,G0 r3.Light.Y,G0 r3.Light.Z,E3 r3.Rows,E4 r3.Frames,E5 r3.Tanks,G0 r3.G2.Tolerance,G0 r3.G2.Trim,G0 r3.G2.List_,G0 r3.G2.Stability]) G3a O O O O O O O O) (G7 (hK49 ?_))))
  refine JC_vgiveB 1008 0 (v4+1) O O O (Nat.lt_succ_self _) (cs':=[E7 s39,E6 r3.Covers,G0 r3.Light.Kilos,G0 r3.Light.X,G0 r3.Light.Y,G0 r3.Light.Z,E3 r3.Rows,E4 r3.Frames,E5 r3.Tanks,G0 r3.G2.Tolerance,G0 r3.G2.Trim,G0 r3.G2.List_,G0 r3.G2.Stability]) O (Gu (⟨[.agg [E7 s39,E6 r3.Covers,G0 r3.Light.Kilos,G0 r3.Light.X,G0 r3.Light.Y,G0 r3.Light.Z,E3 r3.Rows,E4 r3.Frames,E5 r3.Tanks,G0 r3.G2.Tolerance,G0 r3.G2.Trim,G0 r3.G2.List_,G0 r3.G2.Stability]],[],G,O,⟨⟨_,⟨_,_,_,_,O,O,O,.inl ⟨Hd,O⟩⟩,.conv (.same O)⟩,G⟩,O,congrArg (fun r:Gw=>(.agg (Gw.cs r):AV)) (Option.some.inj h)⟩))
end
end Go.Proofs.YtbljcmgjmieffaaGreat
