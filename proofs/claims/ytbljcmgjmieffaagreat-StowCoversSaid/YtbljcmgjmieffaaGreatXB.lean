/-
 Models of functions of the program,and that they return what the models say.
-/
import Derived.Test.YtbljcmgjmieffaaGreatSpecR
set_option linter.unnecessarySimpa false
set_option maxRecDepth 100000
set_option linter.unusedVariables false
set_option linter.unusedSimpArgs false
namespace Go.Proofs.YtbljcmgjmieffaaGreat
open Go.RowKit
noncomputable section
structure Gz where
 Bay:Int
 Row:Int
 Tiers:Int
 Deck:Bool
 deriving DecidableEq,Inhabited
def Gz.cs (x:Gz):List AV:=[U8 x.Bay,U8 x.Row,U8 x.Tiers,BL x.Deck]
def Gz.av (x:Gz):AV:=.agg x.cs
abbrev Eb:=LS 4 Gz.av
namespace XBF
open XAF
open XCF
open XGF
theorem Jc3:G99 Ek 107 4=true:=by kernel_rfl
theorem Jc0:Hf Ek 22=true:=by kernel_rfl
theorem Jb4:Hf Ek 50=true:=by kernel_rfl
theorem Ja6:Hf Ek 78=true:=by kernel_rfl
theorem Ja0:Ru Ek 55 12 112=true:=by kernel_rfl
theorem J0c:Ru Ek 70 2 32=true:=by kernel_rfl
theorem J0b:Jo Ek 107 0 0=true:=by kernel_rfl
theorem J0a:Jo Ek 107 1 1=true:=by kernel_rfl
theorem J09:Jo Ek 107 2 2=true:=by kernel_rfl
theorem J08:Jo Ek 107 3 3=true:=by kernel_rfl
theorem Zt:H91 Ek 3 .i64=true:=by kernel_rfl
theorem G19:H91 Ek 5 .u8=true:=by kernel_rfl
theorem G03:placesOf Ek 55=some [(0,1),(1,1),(2,1),(3,1),(4,1),(5,1),(6,1),(7,1),(8,1),(9,1),(10,1),(11,1)]:=by kernel_rfl
theorem Gff:placesOf Ek 70=some [(0,1),(1,1)]:=by kernel_rfl
theorem J7e:R7 Ek 107 4=true:=by kernel_rfl
theorem J04:R7 Ek 26 1=true:=by kernel_rfl
theorem J03:R7 Ek 27 1=true:=by kernel_rfl
theorem Gad:R7 Ek 3 1=true:=by kernel_rfl
theorem G18:R7 Ek 36 13=true:=by kernel_rfl
theorem Gce:sliceB Ek 22 107 4=true:=by kernel_rfl
theorem Gb2:(Ek.info? 36).bind (fun i=>i.zero.map Value.cells)=some (List.toArray [.slice none 0 0,.slice none 0 0,.int .i64 0,.int .i64 0,.int .i64 0,.int .i64 0,.slice none 0 0,.slice none 0 0,.slice none 0 0,.int .i64 0,.int .i64 0,.int .i64 0,.int .i64 0]):=by kernel_rfl
theorem G4b:(Ek.info? 55).bind (fun i=>i.zero.map Value.cells)=some (List.toArray [.int .i64 0,.int .i64 0,.bool false,.int .i64 0,.int .i64 0,.int .i64 0,.int .i64 0,.int .i64 0,.slice none 0 0,.int .i64 0,.int .i64 0,.int .i64 0]):=by kernel_rfl
theorem H5e:(Ek.info? 70).bind (fun i=>i.zero.map Value.cells)=some (List.toArray [.int .i64 0,.slice none 0 0]):=by kernel_rfl
theorem J70:Qv Ek 107 4=true:=by kernel_rfl
theorem G89:Qv Ek 36 13=true:=by kernel_rfl
end XBF
open XAF
open XCF
open XGF
open XBF

def G86 (c:G3) (p1:Int) (p2:Int) (p3:Bool):Option Bool:=
 some (((decide (c.Bay=p1))&&(decide (c.Row=p2)))&&(c.Deck==p3))
theorem Hef (c:G3) (p1:Int) (p2:Int) (p3:Bool) (r:Bool) (h:G86 c p1 p2 p3=some r):Pure Ek 78 [.agg (G3.cs c),.dptr [G0 p1],.dptr [G0 p2],.dptr [BL p3]] (·=BL r):=by
 unfold G86 at h
 refine H5 [.tmp 5] Tryz.func78 O O (Jr fun hK1=>(JLh (.ptr 1114 0) (Q1 (cs:=(G3.cs c)) 1114 O O O O O) O (Rc (BL false) O (G7 (hK1 (Gs [(1,.dptr [G0 p1]),(2,.dptr [G0 p2]),(3,.dptr [BL p3]),(4,Ee c)] [] 1114 rfl rfl rfl G rfl (by repeat' (first | exact .ptr | constructor)) ?_))))))
 refine Jr fun hK2=>(JLh (Ee c) (Gb Zh O O O) O (JLh (G0 c.Bay) (Gi Gd O O O) O (JLh (G0 p1) (Gi Gd O O O) O (JLh (BL (decide (c.Bay=p1))) (Jx O O O) O (Rc (BL (decide (c.Bay=p1))) O (JLo (.dptr [G0 c.Row,BL c.Deck,G0 c.Tiers,G0 c.Height,G0 c.Kilos20,G0 c.Kilos40,G0 c.Lash,E0 c.Plugs,G0 c.X,G0 c.Y,G0 c.Z]) [] O .sct G (fun hc=>Gb Zg O O O) O (JLo (G0 c.Row) [11] O .sct ⟨Ua,G⟩ (fun hc=>Gi Gd O O O) O (JLo (G0 p2) [] O .sct G (fun hc=>Gi Gd O O O) O (JLo (BL (decide (c.Row=p2))) [12,13] O .sct ⟨Ua,Ua,G⟩ (fun hc=>Jx O O O) O (JLh (BL ((decide (c.Bay=p1))&&(decide (c.Row=p2)))) (Q6 O O O O) O (Rc (BL ((decide (c.Bay=p1))&&(decide (c.Row=p2)))) O (JLo (.dptr [BL c.Deck,G0 c.Tiers,G0 c.Height,G0 c.Kilos20,G0 c.Kilos40,G0 c.Lash,E0 c.Plugs,G0 c.X,G0 c.Y,G0 c.Z]) [] O .sct G (fun hc=>Gb R2 O O O) O (JLo (BL c.Deck) [17] O .sct ⟨Ua,G⟩ (fun hc=>Gi Jp O O O) O ?_)))))))))))))
 refine JLo (BL p3) [] O .sct G (fun hc=>Gi Jp O O O) O (JLo (BL (c.Deck==p3)) [18,19] O .sct ⟨Ua,Ua,G⟩ (fun hc=>Ha1 Gae O O O) O (JLh (BL (((decide (c.Bay=p1))&&(decide (c.Row=p2)))&&(c.Deck==p3))) (Q6 O O O O) O (Rc (BL (((decide (c.Bay=p1))&&(decide (c.Row=p2)))&&(c.Deck==p3))) O (G7 (hK2 (Gv (fin1 BL h)))))))

def G94 (s:Gt) (bay:Int) (row:Int) (deck:Bool):Option (Int×Bool):=
 bnd (Qb s.Columns (fun z0=>G86 z0 bay row deck)) fun r3=>
 bif decide ((r3.length:Int)=0) then
 (some (0,false))
 else
 (Yn r3 0 fun y8=>
  some (y8,true))
theorem M_ship_Find_w (s:Gt) (bay:Int) (row:Int) (deck:Bool) (r:Int×Bool) (h:G94 s bay row deck=some r):Pure Ek 50 [.agg (Gt.cs s),G0 bay,G0 row,BL deck] (·=.tup [G0 r.1,BL r.2]):=by
 unfold G94 at h
 refine H5 [.tmp 8,.tmp 9] Tryz.func50 O O (Jr fun hK1=>(JLh (.ptr 1095 0) (Q1 (cs:=(Gt.cs s)) 1095 O O O O O) O (JLh (.ptr 1096 0) (Q1 (cs:=[G0 bay]) 1096 O O O O O) O (JLh (.ptr 1097 0) (Q1 (cs:=[G0 row]) 1097 O O O O O) O (JLh (.ptr 1098 0) (Q1 (cs:=[BL deck]) 1098 O O O O O) O (Rc (G0 0) O (Rc (BL false) O (G7 (hK1 ?_)))))))))
 refine Gs [(4,Ec s),(5,.ptr 1096 0),(6,.ptr 1097 0),(7,.ptr 1098 0)] [(1096,.box 3 [G0 bay]),(1097,.box 3 [G0 row]),(1098,.box 4 [BL deck])] 1095 rfl rfl rfl ⟨⟨_,rfl,.boxEq rfl rfl⟩,⟨_,rfl,.boxEq rfl rfl⟩,⟨_,rfl,.boxEq rfl rfl⟩,G⟩ rfl (by repeat' (first | exact .ptr | constructor)) ?_
 refine Gs [(4,Ec s),(5,.dptr [G0 bay]),(6,.ptr 1097 0),(7,.ptr 1098 0)] [(1097,.box 3 [G0 row]),(1098,.box 4 [BL deck])] 1096 rfl rfl rfl ⟨⟨_,rfl,.boxEq rfl rfl⟩,⟨_,rfl,.boxEq rfl rfl⟩,G⟩ rfl (by repeat' (first | exact .ptr | constructor)) ?_
 refine Gs [(4,Ec s),(5,.dptr [G0 bay]),(6,.dptr [G0 row]),(7,.ptr 1098 0)] [(1098,.box 4 [BL deck])] 1097 rfl rfl rfl ⟨⟨_,rfl,.boxEq rfl rfl⟩,G⟩ rfl (by repeat' (first | exact .ptr | constructor)) ?_
 refine Gs [(4,Ec s),(5,.dptr [G0 bay]),(6,.dptr [G0 row]),(7,.dptr [BL deck])] [] 1098 rfl rfl rfl G rfl (by repeat' (first | exact .ptr | constructor)) ?_
 refine Jr fun hK2=>(JLh (Ec s) (Gb Hm O O O) O (JLh (E7 s.Columns) (Gi J4 O O O) O (JLh (.fn 78 [.dptr [G0 bay],.dptr [G0 row],.dptr [BL deck]]) (Z5 (cs:=[.dptr [G0 bay],.dptr [G0 row],.dptr [BL deck]]) O O) O ?_)))
 obtain⟨r3,hr3,h⟩:=Gf h
 refine JLh (E0 r3) (Gu O (G37 s.Columns (fun z0=>G86 z0 bay row deck) 78 [.dptr [G0 bay],.dptr [G0 row],.dptr [BL deck]] Ja6 O (fun z0 q hq=>Hef z0 bay row deck q hq) r3 hr3) J11 ⟨O,O,O,O,G⟩) O (Rc (E0 r3) O (G7 (hK2 (Js fun hK4=>Jr fun hK5=>(Rc (E0 r3) O (JLl Gq O O O fun hm16=>(JLh (BL (decide ((r3.length:Int)=0))) (Jx O O O) O (G7 (hK5 (JCc O h (fun h hb=>?_) (fun h hb=>?_)))))))))))
 ·
  refine Jr fun hK6=>(Rc (G0 0) O (Rc (BL false) O (G7 (hK6 (Gv (⟨[G0 0,BL false],[],G,O,⟨⟨_,O,.conv (.same O)⟩,⟨_,O,.conv (.same O)⟩,G⟩,O,congrArg (fun r:Int×Bool=>(.tup [G0 r.1,BL r.2]:AV)) (Option.some.inj h)⟩))))))
 ·
  refine Gr (hK4 (Jr fun hK7=>(Rc (E0 r3) O ?_)))
  obtain⟨m9,y8,hm9,hy8,h⟩:=Rh h
  refine JLh (.dptr [G0 y8]) (H9 (f:=G0) (xs:=r3) (y:=y8) O O O Gq hy8 hm9) O (JLh (G0 y8) (Gi Gd O O O) O (Rc (G0 y8) O (Rc (BL true) O (G7 (hK7 (Gv (⟨[G0 y8,BL true],[],G,O,⟨⟨_,O,.conv (.same O)⟩,⟨_,O,.conv (.same O)⟩,G⟩,O,congrArg (fun r:Int×Bool=>(.tup [G0 r.1,BL r.2]:AV)) (Option.some.inj h)⟩)))))))

def Ri (l:List Gz) (covers:Int):Option Gt:=
 bnd (H15 (min (l.length:Int) 12) l.length) fun m5=>
 each (fun y106 i106 (s106:(List G9)×Int×Int×Int×Int×(List Row)×(List Frame)×(List Gm)×Int×Int×Int×Int×(List G3)) nx106=>
  jp (fun kj109=>
   G08 (y106.Bay) fun v112=>
   bnd (Gd1 v112 5) fun v113=>
   G08 (y106.Row) fun v114=>
   bnd (Gd1 v114 5) fun v115=>
   G08 (y106.Tiers) fun v116=>
   bnd (Gd1 v116 4) fun v117=>
   G08 (2+v117) fun v118=>
   G08 (13000*v113) fun v120=>
   G08 (v120 - 26000) fun v121=>
   G08 (2500*v115) fun v122=>
   G08 (v122 - 5000) fun v123=>
   jp (fun kj124=>
    bif y106.Deck then
    (kj124 20000)
    else
    (kj124 2000)) fun(j124:Int)=>
   bnd (G94 (Gt.mk s106.2.2.2.2.2.2.2.2.2.2.2.2 s106.1 (Light.mk s106.2.1 s106.2.2.1 s106.2.2.2.1 s106.2.2.2.2.1) s106.2.2.2.2.2.1 s106.2.2.2.2.2.2.1 s106.2.2.2.2.2.2.2.1 (G2.mk s106.2.2.2.2.2.2.2.2.1 s106.2.2.2.2.2.2.2.2.2.1 s106.2.2.2.2.2.2.2.2.2.2.1 s106.2.2.2.2.2.2.2.2.2.2.2.1)) v113 v115 y106.Deck) fun r127=>
   bif (!r127.2) then
   (need (decide ((s106.2.2.2.2.2.2.2.2.2.2.2.2.length+[(G3.mk v113 v115 y106.Deck v118 0 500000000 500000000 0 [] v121 v123 j124)].length)*112≤140737488355328∧s106.2.2.2.2.2.2.2.2.2.2.2.2.length+[(G3.mk v113 v115 y106.Deck v118 0 500000000 500000000 0 [] v121 v123 j124)].length≤maxLen)) <|
    kj109 (s106.2.2.2.2.2.2.2.2.2.2.2.2++[(G3.mk v113 v115 y106.Deck v118 0 500000000 500000000 0 [] v121 v123 j124)]))
   else
   (kj109 s106.2.2.2.2.2.2.2.2.2.2.2.2)) fun(j109:(List G3))=>
  nx106 (s106.1,s106.2.1,s106.2.2.1,s106.2.2.2.1,s106.2.2.2.2.1,s106.2.2.2.2.2.1,s106.2.2.2.2.2.2.1,s106.2.2.2.2.2.2.2.1,s106.2.2.2.2.2.2.2.2.1,s106.2.2.2.2.2.2.2.2.2.1,s106.2.2.2.2.2.2.2.2.2.2.1,s106.2.2.2.2.2.2.2.2.2.2.2.1,j109))
 (fun(s106:(List G9)×Int×Int×Int×Int×(List Row)×(List Frame)×(List Gm)×Int×Int×Int×Int×(List G3))=>
  jp (fun kj130=>
   bif decide ((s106.2.2.2.2.2.2.2.2.2.2.2.2.length:Int)=0) then
   (kj130 ([(G3.mk 0 0 false 3 0 500000000 500000000 0 [] 0 0 2000)]))
   else
   (kj130 s106.2.2.2.2.2.2.2.2.2.2.2.2)) fun(j130:(List G3))=>
  need (decide (5≤9223372036854775807)) <|
  upto (fun i200 (s200:(List G9)×Int×Int×Int×Int×(List Row)×(List Frame)×(List Gm)×Int×Int×Int×Int) nx200=>
   jp (fun kj203=>
    jp (fun kj204=>
     G08 (2*(i200:Int)) fun v206=>
     bnd (H15 v206 4294967295) fun m207=>
     bif decide ((H0d .u32 (G6d .u32 covers m207) 1)=1) then
     (need (decide ((s200.1.length+[(G9.mk (i200:Int) [0,1])].length)*32≤140737488355328∧s200.1.length+[(G9.mk (i200:Int) [0,1])].length≤maxLen)) <|
      kj204 (s200.1++[(G9.mk (i200:Int) [0,1])]))
     else
     (kj204 s200.1)) fun(j204:(List G9))=>
    G08 (2*(i200:Int)) fun v210=>
    G08 (v210+1) fun v211=>
    bnd (H15 v211 4294967295) fun m212=>
    bif decide ((H0d .u32 (G6d .u32 covers m212) 1)=1) then
    (need (decide ((j204.length+[(G9.mk (i200:Int) [2,3,4])].length)*32≤140737488355328∧j204.length+[(G9.mk (i200:Int) [2,3,4])].length≤maxLen)) <|
     kj203 (j204++[(G9.mk (i200:Int) [2,3,4])]))
    else
    (kj203 j204)) fun(j203:(List G9))=>
   nx200 (j203,s200.2.1,s200.2.2.1,s200.2.2.2.1,s200.2.2.2.2.1,s200.2.2.2.2.2.1,s200.2.2.2.2.2.2.1,s200.2.2.2.2.2.2.2.1,s200.2.2.2.2.2.2.2.2.1,s200.2.2.2.2.2.2.2.2.2.1,s200.2.2.2.2.2.2.2.2.2.2.1,s200.2.2.2.2.2.2.2.2.2.2.2))
  (fun(s200:(List G9)×Int×Int×Int×Int×(List Row)×(List Frame)×(List Gm)×Int×Int×Int×Int)=>
   some (Gt.mk j130 s200.1 (Light.mk s200.2.1 s200.2.2.1 s200.2.2.2.1 s200.2.2.2.2.1) s200.2.2.2.2.2.1 s200.2.2.2.2.2.2.1 s200.2.2.2.2.2.2.2.1 (G2.mk s200.2.2.2.2.2.2.2.2.1 s200.2.2.2.2.2.2.2.2.2.1 s200.2.2.2.2.2.2.2.2.2.2.1 s200.2.2.2.2.2.2.2.2.2.2.2))) (5:Int).toNat 0 (s106.1,s106.2.1,s106.2.2.1,s106.2.2.2.1,s106.2.2.2.2.1,s106.2.2.2.2.2.1,s106.2.2.2.2.2.2.1,s106.2.2.2.2.2.2.2.1,s106.2.2.2.2.2.2.2.2.1,s106.2.2.2.2.2.2.2.2.2.1,s106.2.2.2.2.2.2.2.2.2.2.1,s106.2.2.2.2.2.2.2.2.2.2.2.1)) (l.take m5) 0 ([],0,0,0,0,[],[],[],0,0,0,0,[])
theorem Ge1 (l:List Gz) (covers:Int) (r:Gt) (h:Ri l covers=some r):Qh Ek 22 [Eb l,.sc (.int .u32 covers)] [] (fun av L'=>∃ p:Nat,av=.agg [.vec 1057 p 12 r.Columns.length,E3 r.Covers,G0 r.Light.Kilos,G0 r.Light.X,G0 r.Light.Y,G0 r.Light.Z,E4 r.Rows,E5 r.Frames,E6 r.Tanks,G0 r.G2.Tolerance,G0 r.G2.Trim,G0 r.G2.List_,G0 r.G2.Stability]∧L'=[(1057,.vec 55 12 p (r.Columns.map G3.av))]):=by
 unfold Ri at h
 refine Zq [] [.cell 4 36] Tryz.func22 O O (H54 O) (Jr fun hK1=>(JLh (.ptr 1053 0) (Gc8 1053 [E7 ([]:List G3),E3 ([]:List G9),G0 0,G0 0,G0 0,G0 0,E4 ([]:List Row),E5 ([]:List Frame),E6 ([]:List Gm),G0 0,G0 0,G0 0,G0 0] [.slice none 0 0,.slice none 0 0,.int .i64 0,.int .i64 0,.int .i64 0,.int .i64 0,.slice none 0 0,.slice none 0 0,.slice none 0 0,.int .i64 0,.int .i64 0,.int .i64 0,.int .i64 0] Gb2 ⟨.inr ⟨_,O,O⟩,.inr ⟨_,O,O⟩,.inl O,.inl O,.inl O,.inl O,.inr ⟨_,O,O⟩,.inr ⟨_,O,O⟩,.inr ⟨_,O,O⟩,.inl O,.inl O,.inl O,.inl O,G⟩ O O) O (G7 (hK1 ?_))))
 refine Jr fun hK2=>(JLh (.ptr 1054 0) (Gc8 1054 [.sc (.slice none 0 0),.sc (.slice none 0 0),G0 0,G0 0,G0 0,G0 0,E4 ([]:List Row),E5 ([]:List Frame),E6 ([]:List Gm),G0 0,G0 0,G0 0,G0 0] [.slice none 0 0,.slice none 0 0,.int .i64 0,.int .i64 0,.int .i64 0,.int .i64 0,.slice none 0 0,.slice none 0 0,.slice none 0 0,.int .i64 0,.int .i64 0,.int .i64 0,.int .i64 0] Gb2 ⟨.inl O,.inl O,.inl O,.inl O,.inl O,.inl O,.inr ⟨_,O,O⟩,.inr ⟨_,O,O⟩,.inr ⟨_,O,O⟩,.inl O,.inl O,.inl O,.inl O,G⟩ O O) O ?_)
 refine Jc4 1054 0 1057 55 12 O O O (cs':=[.vec 1057 (([]:List G3).length) 12 (([]:List G3).length),.sc (.slice none 0 0),G0 0,G0 0,G0 0,G0 0,E4 ([]:List Row),E5 ([]:List Frame),E6 ([]:List Gm),G0 0,G0 0,G0 0,G0 0]) O (J59 1054 1 1058 70 2 O O O (cs':=[.vec 1057 (([]:List G3).length) 12 (([]:List G3).length),OW 1058 2 G9.av ([]:List G9),G0 0,G0 0,G0 0,G0 0,E4 ([]:List Row),E5 ([]:List Frame),E6 ([]:List Gm),G0 0,G0 0,G0 0,G0 0]) O (G7 (hK2 (Js fun hK3=>Jr fun hK4=>(Rc (Eb l) O (Rc (Eb l) O (JLl Gce O O O fun hm14=>(JLh (G0 (min (l.length:Int) 12)) (A_min O O O) O ?_))))))))
 obtain⟨m5,hm5,h⟩:=Gf h
 refine JLh (Eb (l.take m5)) (H12 (f:=Gz.av) (xs:=l) O O O Gce (G28 hm5)) O (JLl Gce O O O fun hm17=>(Rc (G0 0) O (G7 (hK4 (Gx ?_)))))
 obtain⟨b106,kx106,hb106,hkx106,h⟩:=Jh h
 refine Hz (fun i106 (s106:(List G9)×Int×Int×Int×Int×(List Row)×(List Frame)×(List Gm)×Int×Int×Int×Int×(List G3))=>each b106 kx106 (List.drop i106 (l.take m5)) i106 s106=some r) (fun i106 s106=>[(1,.sc (.int .u32 covers)),(4,.ptr 1053 0),(5,.ptr 1054 0),(16,Eb (l.take m5)),(17,G0 ((l.take m5).length:Int)),(18,Ej i106)]) (fun i106 s106=>[(1057,.vec 55 12 s106.2.2.2.2.2.2.2.2.2.2.2.2.length (s106.2.2.2.2.2.2.2.2.2.2.2.2.map G3.av)),(1058,.spare 70 2 s106.1.length s106.1.length),(1053,.box 36 [E7 ([]:List G3),E3 ([]:List G9),G0 0,G0 0,G0 0,G0 0,E4 ([]:List Row),E5 ([]:List Frame),E6 ([]:List Gm),G0 0,G0 0,G0 0,G0 0]),(1054,.box 36 [.vec 1057 s106.2.2.2.2.2.2.2.2.2.2.2.2.length 12 s106.2.2.2.2.2.2.2.2.2.2.2.2.length,OW 1058 2 G9.av s106.1,G0 s106.2.1,G0 s106.2.2.1,G0 s106.2.2.2.1,G0 s106.2.2.2.2.1,E4 s106.2.2.2.2.2.1,E5 s106.2.2.2.2.2.2.1,E6 s106.2.2.2.2.2.2.2.1,G0 s106.2.2.2.2.2.2.2.2.1,G0 s106.2.2.2.2.2.2.2.2.2.1,G0 s106.2.2.2.2.2.2.2.2.2.2.1,G0 s106.2.2.2.2.2.2.2.2.2.2.2.1])]) (fun i106=>(l.take m5).length - i106) 0 ([],0,0,0,0,[],[],[],0,0,0,0,[]) h ⟨(by repeat' constructor),⟨⟨_,rfl,.vec⟩,⟨_,rfl,.same⟩,⟨_,rfl,.boxL rfl (by repeat' constructor)⟩,⟨_,rfl,.boxL rfl (by repeat' constructor)⟩,G⟩,rfl⟩ ?_
 clear h
 intro i106 s106 hi106 K106 e106
 refine Jr fun hK107=>(JLh (BL (decide ((i106:Int) < ((l.take m5).length:Int)))) (Jt O O O) O (G7 (hK107 (Js fun hK108=>Gp O (fun hb=>?_) (fun hb=>?_)))))
 ·
  have hk106:=Q7 hb
  obtain⟨y106,nx106,hy106,hn106,h⟩:=J1 hi106 hk106
  replace h:=Zj hb106 h
  refine Gr (hK108 ?_)
  obtain⟨kj109,hkj109,h⟩:=Yh h
  refine R5 (fun j109:(List G3)=>kj109 j109=some r) (fun j109=>[(1,.sc (.int .u32 covers)),(4,.ptr 1053 0),(5,.ptr 1054 0),(16,Eb (l.take m5)),(17,G0 ((l.take m5).length:Int)),(18,Ej i106)]) (fun j109=>[(1057,.vec 55 12 j109.length (j109.map G3.av)),(1058,.spare 70 2 s106.1.length s106.1.length),(1053,.box 36 [E7 ([]:List G3),E3 ([]:List G9),G0 0,G0 0,G0 0,G0 0,E4 ([]:List Row),E5 ([]:List Frame),E6 ([]:List Gm),G0 0,G0 0,G0 0,G0 0]),(1054,.box 36 [.vec 1057 j109.length 12 j109.length,OW 1058 2 G9.av s106.1,G0 s106.2.1,G0 s106.2.2.1,G0 s106.2.2.2.1,G0 s106.2.2.2.2.1,E4 s106.2.2.2.2.2.1,E5 s106.2.2.2.2.2.2.1,E6 s106.2.2.2.2.2.2.2.1,G0 s106.2.2.2.2.2.2.2.2.1,G0 s106.2.2.2.2.2.2.2.2.2.1,G0 s106.2.2.2.2.2.2.2.2.2.2.1,G0 s106.2.2.2.2.2.2.2.2.2.2.2.1])]) (fun Kj109 ej109=>?_) ?_
  ·
   refine Gx (Jr fun hK110=>(JLh (.dptr (Gz.cs y106)) (H9 (f:=Gz.av) (xs:=(l.take m5)) (y:=y106) O O O Gce hy106 O) O (JLh (.agg (Gz.cs y106)) (Gh Jc3 O O O) O (JLh (.ptr 1055 0) (Hs 1055 4 J70 O O) O (J0 (u:=.junk) (Hh (u:=.agg (Gz.cs y106)) (ds:=[U8 y106.Bay,U8 y106.Row,U8 y106.Tiers,BL y106.Deck]) J7e O O O O O O O O) (G7 (hK110 ?_)))))))
   refine Gs [(1,.sc (.int .u32 covers)),(4,.ptr 1053 0),(5,.ptr 1054 0),(7,.dptr (Gz.cs y106)),(16,Eb (l.take m5)),(17,G0 ((l.take m5).length:Int)),(18,Ej i106)] [(1057,.vec 55 12 s106.2.2.2.2.2.2.2.2.2.2.2.2.length (s106.2.2.2.2.2.2.2.2.2.2.2.2.map G3.av)),(1058,.spare 70 2 s106.1.length s106.1.length),(1053,.box 36 [E7 ([]:List G3),E3 ([]:List G9),G0 0,G0 0,G0 0,G0 0,E4 ([]:List Row),E5 ([]:List Frame),E6 ([]:List Gm),G0 0,G0 0,G0 0,G0 0]),(1054,.box 36 [.vec 1057 s106.2.2.2.2.2.2.2.2.2.2.2.2.length 12 s106.2.2.2.2.2.2.2.2.2.2.2.2.length,OW 1058 2 G9.av s106.1,G0 s106.2.1,G0 s106.2.2.1,G0 s106.2.2.2.1,G0 s106.2.2.2.2.1,E4 s106.2.2.2.2.2.1,E5 s106.2.2.2.2.2.2.1,E6 s106.2.2.2.2.2.2.2.1,G0 s106.2.2.2.2.2.2.2.2.1,G0 s106.2.2.2.2.2.2.2.2.2.1,G0 s106.2.2.2.2.2.2.2.2.2.2.1,G0 s106.2.2.2.2.2.2.2.2.2.2.2.1])] 1055 rfl rfl rfl ⟨⟨_,rfl,.vec⟩,⟨_,rfl,.same⟩,⟨_,rfl,.boxEq rfl rfl⟩,⟨_,rfl,.boxEq rfl rfl⟩,G⟩ rfl (by repeat' (first | exact .ptr | constructor)) ?_
   refine Jr fun hK111=>(JLh (.dptr (Gz.cs y106)) (Gb J0b O O O) O (JLh (U8 y106.Bay) (Gi Hw O O O) O ?_))
   obtain⟨v112,hv112,h⟩:=Jc h
   refine JLh (G0 v112) (G7e Zt G19 hv112 O O) O ?_
   obtain⟨v113,hv113,h⟩:=Gf h
   refine JLh (G0 v113) (Gf4 (Jw hv113).1 (Jw hv113).2 O O O) O (JLh (.dptr ((Gz.cs y106).drop 1)) (Gb J0a O O O) O (JLh (U8 y106.Row) (Gi Hw O O O) O ?_))
   obtain⟨v114,hv114,h⟩:=Jc h
   refine JLh (G0 v114) (G7e Zt G19 hv114 O O) O ?_
   obtain⟨v115,hv115,h⟩:=Gf h
   refine JLh (G0 v115) (Gf4 (Jw hv115).1 (Jw hv115).2 O O O) O (JLh (.dptr [BL y106.Deck]) (Gb J08 O O O) O (JLh (BL y106.Deck) (Gi Jp O O O) O (JLh (.dptr [U8 y106.Tiers,BL y106.Deck]) (Gb J09 O O O) O (JLh (U8 y106.Tiers) (Gi Hw O O O) O ?_))))
   obtain⟨v116,hv116,h⟩:=Jc h
   refine JLh (G0 v116) (G7e Zt G19 hv116 O O) O ?_
   obtain⟨v117,hv117,h⟩:=Gf h
   refine JLh (G0 v117) (Gf4 (Jw hv117).1 (Jw hv117).2 O O O) O ?_
   obtain⟨v118,hv118,h⟩:=Jc h
   refine JLh (G0 v118) (Hv hv118 O O O) O (JLh (.agg [G0 v113,G0 v115,BL y106.Deck,G0 v118,G0 0,G0 500000000,G0 500000000,G0 0,E0 ([]:List Int),G0 0,G0 0,G0 0]) (Hp (cs:=[G0 v113,G0 v115,BL y106.Deck,G0 v118,G0 0,G0 500000000,G0 500000000,G0 0,E0 ([]:List Int),G0 0,G0 0,G0 0]) [(0,1),(1,1),(2,1),(3,1),(4,1),(5,1),(6,1),(7,1),(8,1),(9,1),(10,1),(11,1)] [G0 0,G0 0,BL false,G0 0,G0 0,G0 0,G0 0,G0 0,E0 ([]:List Int),G0 0,G0 0,G0 0] [.int .i64 0,.int .i64 0,.bool false,.int .i64 0,.int .i64 0,.int .i64 0,.int .i64 0,.int .i64 0,.slice none 0 0,.int .i64 0,.int .i64 0,.int .i64 0] G03 G4b ⟨.inl O,.inl O,.inl O,.inl O,.inl O,.inl O,.inl O,.inl O,.inr ⟨_,O,O⟩,.inl O,.inl O,.inl O,G⟩ O O) O (JLh (.ptr 1056 0) (Hs 1056 12 Yp O O) O (J0 (u:=.junk) (Hh (u:=.agg [G0 v113,G0 v115,BL y106.Deck,G0 v118,G0 0,G0 500000000,G0 500000000,G0 0,E0 ([]:List Int),G0 0,G0 0,G0 0]) (ds:=[G0 v113,G0 v115,BL y106.Deck,G0 v118,G0 0,G0 500000000,G0 500000000,G0 0,E0 ([]:List Int),G0 0,G0 0,G0 0]) G4c O O O O O O O O) (G7 (hK111 ?_)))))
   refine Jr fun hK119=>(JLh (.ptr 1056 0) (Q0 Zh O O) O (JLh (G0 v113) (Y3 Gd O O O O) O ?_))
   obtain⟨v120,hv120,h⟩:=Jc h
   refine JLh (G0 v120) (He6 hv120 O O O) O ?_
   obtain⟨v121,hv121,h⟩:=Jc h
   refine JLh (G0 v121) (H3c hv121 O O O) O (JLh (.ptr 1056 1) (Q0 Zg O O) O (JLh (G0 v115) (Y3 Gd O O O O) O ?_))
   obtain⟨v122,hv122,h⟩:=Jc h
   refine JLh (G0 v122) (He6 hv122 O O O) O ?_
   obtain⟨v123,hv123,h⟩:=Jc h
   refine JLh (G0 v123) (H3c hv123 O O O) O (JLh (.ptr 1056 9) (Q0 H51 O O) O (J0 (u:=.junk) (Hh (u:=G0 v121) (ds:=[G0 v113,G0 v115,BL y106.Deck,G0 v118,G0 0,G0 500000000,G0 500000000,G0 0,E0 ([]:List Int),G0 v121,G0 0,G0 0]) Gad O O O O O O O O) (JLh (.ptr 1056 10) (Q0 H1d O O) O (J0 (u:=.junk) (Hh (u:=G0 v123) (ds:=[G0 v113,G0 v115,BL y106.Deck,G0 v118,G0 0,G0 500000000,G0 500000000,G0 0,E0 ([]:List Int),G0 v121,G0 v123,G0 0]) Gad O O O O O O O O) (JLh (.ptr 1056 11) (Q0 Gb3 O O) O (J0 (u:=.junk) (Hh (u:=G0 2000) (ds:=[G0 v113,G0 v115,BL y106.Deck,G0 v118,G0 0,G0 500000000,G0 500000000,G0 0,E0 ([]:List Int),G0 v121,G0 v123,G0 2000]) Gad O O O O O O O O) (G7 (hK119 ?_))))))))
   obtain⟨kj124,hkj124,h⟩:=Yh h
   refine R5 (fun j124:Int=>kj124 j124=some r) (fun j124=>[(1,.sc (.int .u32 covers)),(4,.ptr 1053 0),(5,.ptr 1054 0),(8,.ptr 1056 0),(16,Eb (l.take m5)),(17,G0 ((l.take m5).length:Int)),(18,Ej i106)]) (fun j124=>[(1057,.vec 55 12 s106.2.2.2.2.2.2.2.2.2.2.2.2.length (s106.2.2.2.2.2.2.2.2.2.2.2.2.map G3.av)),(1058,.spare 70 2 s106.1.length s106.1.length),(1053,.box 36 [E7 ([]:List G3),E3 ([]:List G9),G0 0,G0 0,G0 0,G0 0,E4 ([]:List Row),E5 ([]:List Frame),E6 ([]:List Gm),G0 0,G0 0,G0 0,G0 0]),(1054,.box 36 [.vec 1057 s106.2.2.2.2.2.2.2.2.2.2.2.2.length 12 s106.2.2.2.2.2.2.2.2.2.2.2.2.length,OW 1058 2 G9.av s106.1,G0 s106.2.1,G0 s106.2.2.1,G0 s106.2.2.2.1,G0 s106.2.2.2.2.1,E4 s106.2.2.2.2.2.1,E5 s106.2.2.2.2.2.2.1,E6 s106.2.2.2.2.2.2.2.1,G0 s106.2.2.2.2.2.2.2.2.1,G0 s106.2.2.2.2.2.2.2.2.2.1,G0 s106.2.2.2.2.2.2.2.2.2.2.1,G0 s106.2.2.2.2.2.2.2.2.2.2.2.1]),(1056,.box 55 [G0 v113,G0 v115,BL y106.Deck,G0 v118,G0 0,G0 500000000,G0 500000000,G0 0,E0 ([]:List Int),G0 v121,G0 v123,G0 j124])]) (fun Kj124 ej124=>?_) ?_
   ·
    refine Jr fun hK125=>(JLh (.ptr 1056 2) (Q0 R2 O O) O (JLh (BL y106.Deck) (Y3 Jp O O O O) O (G7 (hK125 (JCc O h (fun h hb=>?_) (fun h hb=>?_))))))
    ·
     refine G4 (JLh (.ptr 1056 11) (Q0 Gb3 O O) O (J0 (u:=.junk) (Hh (u:=G0 20000) (ds:=[G0 v113,G0 v115,BL y106.Deck,G0 v118,G0 0,G0 500000000,G0 500000000,G0 0,E0 ([]:List Int),G0 v121,G0 v123,G0 20000]) Gad O O O O O O O O) (G7 (ej124 _ _ 20000 h ⟨(by repeat' constructor),⟨⟨_,rfl,.vec⟩,⟨_,rfl,.same⟩,⟨_,rfl,.boxL rfl (by repeat' constructor)⟩,⟨_,rfl,.boxL rfl (by repeat' constructor)⟩,⟨_,rfl,.boxL rfl (by repeat' constructor)⟩,G⟩,rfl⟩))))
    ·
     refine Gr (ej124 _ _ 2000 h ⟨(by repeat' constructor),⟨⟨_,rfl,.vec⟩,⟨_,rfl,.same⟩,⟨_,rfl,.boxL rfl (by repeat' constructor)⟩,⟨_,rfl,.boxL rfl (by repeat' constructor)⟩,⟨_,rfl,.boxL rfl (by repeat' constructor)⟩,G⟩,rfl⟩)
   ·intro j124 h
    replace h:=app1 hkj124 h
    refine Jr fun hK126=>(JLh (.agg [.vec 1057 s106.2.2.2.2.2.2.2.2.2.2.2.2.length 12 s106.2.2.2.2.2.2.2.2.2.2.2.2.length,OW 1058 2 G9.av s106.1,G0 s106.2.1,G0 s106.2.2.1,G0 s106.2.2.2.1,G0 s106.2.2.2.2.1,E4 s106.2.2.2.2.2.1,E5 s106.2.2.2.2.2.2.1,E6 s106.2.2.2.2.2.2.2.1,G0 s106.2.2.2.2.2.2.2.2.1,G0 s106.2.2.2.2.2.2.2.2.2.1,G0 s106.2.2.2.2.2.2.2.2.2.2.1,G0 s106.2.2.2.2.2.2.2.2.2.2.2.1]) (G7d H7 O O O O) O (JLh (.ptr 1056 0) (Q0 Zh O O) O (JLh (G0 v113) (Y3 Gd O O O O) O (JLh (.ptr 1056 1) (Q0 Zg O O) O (JLh (G0 v115) (Y3 Gd O O O O) O (JLh (.ptr 1056 2) (Q0 R2 O O) O (JLh (BL y106.Deck) (Y3 Jp O O O O) O ?_)))))))
    obtain⟨r127,hr127,h⟩:=Gf h
    refine JLh (.tup [G0 r127.1,BL r127.2]) (Jcd (args:=[.agg [E7 s106.2.2.2.2.2.2.2.2.2.2.2.2,E3 s106.1,G0 s106.2.1,G0 s106.2.2.1,G0 s106.2.2.2.1,G0 s106.2.2.2.2.1,E4 s106.2.2.2.2.2.1,E5 s106.2.2.2.2.2.2.1,E6 s106.2.2.2.2.2.2.2.1,G0 s106.2.2.2.2.2.2.2.2.1,G0 s106.2.2.2.2.2.2.2.2.2.1,G0 s106.2.2.2.2.2.2.2.2.2.2.1,G0 s106.2.2.2.2.2.2.2.2.2.2.2.1],G0 v113,G0 v115,BL y106.Deck]) O (M_ship_Find_w (Gt.mk s106.2.2.2.2.2.2.2.2.2.2.2.2 s106.1 (Light.mk s106.2.1 s106.2.2.1 s106.2.2.2.1 s106.2.2.2.2.1) s106.2.2.2.2.2.1 s106.2.2.2.2.2.2.1 s106.2.2.2.2.2.2.2.1 (G2.mk s106.2.2.2.2.2.2.2.2.1 s106.2.2.2.2.2.2.2.2.2.1 s106.2.2.2.2.2.2.2.2.2.2.1 s106.2.2.2.2.2.2.2.2.2.2.2.1)) v113 v115 y106.Deck r127 hr127) Jb4 ⟨.aggL (cs:=[.vec 1057 s106.2.2.2.2.2.2.2.2.2.2.2.2.length 12 s106.2.2.2.2.2.2.2.2.2.2.2.2.length,OW 1058 2 G9.av s106.1,G0 s106.2.1,G0 s106.2.2.1,G0 s106.2.2.2.1,G0 s106.2.2.2.2.1,E4 s106.2.2.2.2.2.1,E5 s106.2.2.2.2.2.2.1,E6 s106.2.2.2.2.2.2.2.1,G0 s106.2.2.2.2.2.2.2.2.1,G0 s106.2.2.2.2.2.2.2.2.2.1,G0 s106.2.2.2.2.2.2.2.2.2.2.1,G0 s106.2.2.2.2.2.2.2.2.2.2.2.1]) (ds:=[E7 s106.2.2.2.2.2.2.2.2.2.2.2.2,E3 s106.1,G0 s106.2.1,G0 s106.2.2.1,G0 s106.2.2.2.1,G0 s106.2.2.2.2.1,E4 s106.2.2.2.2.2.1,E5 s106.2.2.2.2.2.2.1,E6 s106.2.2.2.2.2.2.2.1,G0 s106.2.2.2.2.2.2.2.2.1,G0 s106.2.2.2.2.2.2.2.2.2.1,G0 s106.2.2.2.2.2.2.2.2.2.2.1,G0 s106.2.2.2.2.2.2.2.2.2.2.2.1]) ⟨.vec O,.data O O,.data O O,.data O O,.data O O,.data O O,.data O O,.data O O,.data O O,.data O O,.data O O,.data O O,.data O O,G⟩,.data O O,.data O O,.data O O,G⟩ O) O (Rc (.tup [G0 r127.1,BL r127.2]) O (JLh (G0 r127.1) (H2 O O O) O (JLh (BL r127.2) (H2 O O O) O (Rc (G0 r127.1) O (Rc (BL r127.2) O (G7 (hK126 ?_)))))))
    refine Gs [(1,.sc (.int .u32 covers)),(4,.ptr 1053 0),(5,.ptr 1054 0),(8,.dptr [G0 v113,G0 v115,BL y106.Deck,G0 v118,G0 0,G0 500000000,G0 500000000,G0 0,E0 ([]:List Int),G0 v121,G0 v123,G0 j124]),(10,BL r127.2),(16,Eb (l.take m5)),(17,G0 ((l.take m5).length:Int)),(18,Ej i106)] [(1057,.vec 55 12 s106.2.2.2.2.2.2.2.2.2.2.2.2.length (s106.2.2.2.2.2.2.2.2.2.2.2.2.map G3.av)),(1058,.spare 70 2 s106.1.length s106.1.length),(1053,.box 36 [E7 ([]:List G3),E3 ([]:List G9),G0 0,G0 0,G0 0,G0 0,E4 ([]:List Row),E5 ([]:List Frame),E6 ([]:List Gm),G0 0,G0 0,G0 0,G0 0]),(1054,.box 36 [.vec 1057 s106.2.2.2.2.2.2.2.2.2.2.2.2.length 12 s106.2.2.2.2.2.2.2.2.2.2.2.2.length,OW 1058 2 G9.av s106.1,G0 s106.2.1,G0 s106.2.2.1,G0 s106.2.2.2.1,G0 s106.2.2.2.2.1,E4 s106.2.2.2.2.2.1,E5 s106.2.2.2.2.2.2.1,E6 s106.2.2.2.2.2.2.2.1,G0 s106.2.2.2.2.2.2.2.2.1,G0 s106.2.2.2.2.2.2.2.2.2.1,G0 s106.2.2.2.2.2.2.2.2.2.2.1,G0 s106.2.2.2.2.2.2.2.2.2.2.2.1])] 1056 rfl rfl rfl ⟨⟨_,rfl,.vec⟩,⟨_,rfl,.same⟩,⟨_,rfl,.boxEq rfl rfl⟩,⟨_,rfl,.boxEq rfl rfl⟩,G⟩ rfl (by repeat' (first | exact .ptr | constructor)) ?_
    refine Jr fun hK128=>(Rc (BL r127.2) O (JLh (BL (!r127.2)) (Ze (b:=r127.2) O O) O (G7 (hK128 (JCc O h (fun h hb=>?_) (fun h hb=>?_))))))
    ·
     refine G4 (JLh (.ptr 1054 0) (Q0 Hm O O) O (JLh (.vec 1057 s106.2.2.2.2.2.2.2.2.2.2.2.2.length 12 s106.2.2.2.2.2.2.2.2.2.2.2.2.length) (Y3 J4 O O O O) O (JLh (.agg [G0 v113,G0 v115,BL y106.Deck,G0 v118,G0 0,G0 500000000,G0 500000000,G0 0,E0 ([]:List Int),G0 v121,G0 v123,G0 j124]) (Gh Yd O O O) O (JLh (E7 ([(G3.mk v113 v115 y106.Deck v118 0 500000000 500000000 0 [] v121 v123 j124)])) (H6 (xs:=[.agg [G0 v113,G0 v115,BL y106.Deck,G0 v118,G0 0,G0 500000000,G0 500000000,G0 0,E0 ([]:List Int),G0 v121,G0 v123,G0 j124]]) O ⟨O,O,G⟩ Hq Yp O O O O) O ?_))))
     obtain⟨ha129,h⟩:=Jk h
     refine JLh (.vec 1057 ((s106.2.2.2.2.2.2.2.2.2.2.2.2++[(G3.mk v113 v115 y106.Deck v118 0 500000000 500000000 0 [] v121 v123 j124)]).length) 12 ((s106.2.2.2.2.2.2.2.2.2.2.2.2++[(G3.mk v113 v115 y106.Deck v118 0 500000000 500000000 0 [] v121 v123 j124)]).length)) (G7c (f:=G3.av) (xs:=s106.2.2.2.2.2.2.2.2.2.2.2.2) (ys:=[(G3.mk v113 v115 y106.Deck v118 0 500000000 500000000 0 [] v121 v123 j124)]) (ver:=s106.2.2.2.2.2.2.2.2.2.2.2.2.length) (ver1:=(s106.2.2.2.2.2.2.2.2.2.2.2.2++[(G3.mk v113 v115 y106.Deck v118 0 500000000 500000000 0 [] v121 v123 j124)]).length) rfl rfl rfl rfl Hq Ja0 ha129 (fun _=>rfl) (.inl rfl) (by simp)) O (JLh (.ptr 1054 0) (Q0 Hm O O) O (J0 (u:=.junk) (Hh (u:=.vec 1057 ((s106.2.2.2.2.2.2.2.2.2.2.2.2++[(G3.mk v113 v115 y106.Deck v118 0 500000000 500000000 0 [] v121 v123 j124)]).length) 12 ((s106.2.2.2.2.2.2.2.2.2.2.2.2++[(G3.mk v113 v115 y106.Deck v118 0 500000000 500000000 0 [] v121 v123 j124)]).length)) (ds:=[.vec 1057 ((s106.2.2.2.2.2.2.2.2.2.2.2.2++[(G3.mk v113 v115 y106.Deck v118 0 500000000 500000000 0 [] v121 v123 j124)]).length) 12 ((s106.2.2.2.2.2.2.2.2.2.2.2.2++[(G3.mk v113 v115 y106.Deck v118 0 500000000 500000000 0 [] v121 v123 j124)]).length),OW 1058 2 G9.av s106.1,G0 s106.2.1,G0 s106.2.2.1,G0 s106.2.2.2.1,G0 s106.2.2.2.2.1,E4 s106.2.2.2.2.2.1,E5 s106.2.2.2.2.2.2.1,E6 s106.2.2.2.2.2.2.2.1,G0 s106.2.2.2.2.2.2.2.2.1,G0 s106.2.2.2.2.2.2.2.2.2.1,G0 s106.2.2.2.2.2.2.2.2.2.2.1,G0 s106.2.2.2.2.2.2.2.2.2.2.2.1]) J04 O O O O O O O O) (G7 ?_)))
     exact ej109 _ _ (s106.2.2.2.2.2.2.2.2.2.2.2.2++[(G3.mk v113 v115 y106.Deck v118 0 500000000 500000000 0 [] v121 v123 j124)]) h ⟨(by repeat' constructor),⟨⟨_,rfl,.vec⟩,⟨_,rfl,.same⟩,⟨_,rfl,.boxL rfl (by repeat' constructor)⟩,⟨_,rfl,.boxL rfl (by repeat' constructor)⟩,G⟩,rfl⟩
    ·
     refine Gr (ej109 _ _ s106.2.2.2.2.2.2.2.2.2.2.2.2 h ⟨(by repeat' constructor),⟨⟨_,rfl,.vec⟩,⟨_,rfl,.same⟩,⟨_,rfl,.boxL rfl (by repeat' constructor)⟩,⟨_,rfl,.boxL rfl (by repeat' constructor)⟩,G⟩,rfl⟩)
  ·intro j109 h
   replace h:=app1 hkj109 h
   refine G4 (JLh (G0 ((i106+1:Nat):Int)) (Hv (Hr hk106 hm17) O O O) O (Rc (G0 ((i106+1:Nat):Int)) O (G7 (e106 _ _ (i106+1) (s106.1,s106.2.1,s106.2.2.1,s106.2.2.2.1,s106.2.2.2.2.1,s106.2.2.2.2.2.1,s106.2.2.2.2.2.2.1,s106.2.2.2.2.2.2.2.1,s106.2.2.2.2.2.2.2.2.1,s106.2.2.2.2.2.2.2.2.2.1,s106.2.2.2.2.2.2.2.2.2.2.1,s106.2.2.2.2.2.2.2.2.2.2.2.1,j109) (app1 hn106 h) (by omega) ⟨(by repeat' constructor),⟨⟨_,rfl,.vec⟩,⟨_,rfl,.same⟩,⟨_,rfl,.boxL rfl (by repeat' constructor)⟩,⟨_,rfl,.boxL rfl (by repeat' constructor)⟩,G⟩,rfl⟩))))
 ·
  have h:=app1 hkx106 (J2 hi106 (Hg hb))
  refine J6 (hK3 ?_)
  obtain⟨kj130,hkj130,h⟩:=Yh h
  refine R5 (fun j130:(List G3)=>kj130 j130=some r) (fun j130=>[(1,.sc (.int .u32 covers)),(4,.ptr 1053 0),(5,.ptr 1054 0)]) (fun j130=>[(1057,.vec 55 12 j130.length (j130.map G3.av)),(1058,.spare 70 2 s106.1.length s106.1.length),(1053,.box 36 [E7 ([]:List G3),E3 ([]:List G9),G0 0,G0 0,G0 0,G0 0,E4 ([]:List Row),E5 ([]:List Frame),E6 ([]:List Gm),G0 0,G0 0,G0 0,G0 0]),(1054,.box 36 [.vec 1057 j130.length 12 j130.length,OW 1058 2 G9.av s106.1,G0 s106.2.1,G0 s106.2.2.1,G0 s106.2.2.2.1,G0 s106.2.2.2.2.1,E4 s106.2.2.2.2.2.1,E5 s106.2.2.2.2.2.2.1,E6 s106.2.2.2.2.2.2.2.1,G0 s106.2.2.2.2.2.2.2.2.1,G0 s106.2.2.2.2.2.2.2.2.2.1,G0 s106.2.2.2.2.2.2.2.2.2.2.1,G0 s106.2.2.2.2.2.2.2.2.2.2.2.1])]) (fun Kj130 ej130=>?_) ?_
  ·
   refine Jr fun hK131=>(JLh (.ptr 1054 0) (Q0 Hm O O) O (JLh (.vec 1057 s106.2.2.2.2.2.2.2.2.2.2.2.2.length 12 s106.2.2.2.2.2.2.2.2.2.2.2.2.length) (Y3 J4 O O O O) O (J86 (f:=G3.av) (xs:=s106.2.2.2.2.2.2.2.2.2.2.2.2) Hq O O O (fun hm74=>?_) O O O)))
   refine JLh (BL (decide ((s106.2.2.2.2.2.2.2.2.2.2.2.2.length:Int)=0))) (Jx O O O) O (G7 (hK131 (JCc O h (fun h hb=>?_) (fun h hb=>?_))))
   ·
    refine G4 ?_
    refine JLh (.agg [G0 0,G0 0,BL false,G0 3,G0 0,G0 500000000,G0 500000000,G0 0,E0 ([]:List Int),G0 0,G0 0,G0 2000]) (Hp (cs:=[G0 0,G0 0,BL false,G0 3,G0 0,G0 500000000,G0 500000000,G0 0,E0 ([]:List Int),G0 0,G0 0,G0 2000]) [(0,1),(1,1),(2,1),(3,1),(4,1),(5,1),(6,1),(7,1),(8,1),(9,1),(10,1),(11,1)] [G0 0,G0 0,BL false,G0 0,G0 0,G0 0,G0 0,G0 0,E0 ([]:List Int),G0 0,G0 0,G0 0] [.int .i64 0,.int .i64 0,.bool false,.int .i64 0,.int .i64 0,.int .i64 0,.int .i64 0,.int .i64 0,.slice none 0 0,.int .i64 0,.int .i64 0,.int .i64 0] G03 G4b ⟨.inl O,.inl O,.inl O,.inl O,.inl O,.inl O,.inl O,.inl O,.inr ⟨_,O,O⟩,.inl O,.inl O,.inl O,G⟩ O O) O (JLh (.vec 1057 (([(G3.mk 0 0 false 3 0 500000000 500000000 0 [] 0 0 2000)]).length) 12 (([(G3.mk 0 0 false 3 0 500000000 500000000 0 [] 0 0 2000)]).length)) (A_litVecM 1057 (f:=G3.av) ([(G3.mk 0 0 false 3 0 500000000 500000000 0 [] 0 0 2000)]) (ver1:=([(G3.mk 0 0 false 3 0 500000000 500000000 0 [] 0 0 2000)]).length) rfl ⟨rfl,rfl,G⟩ Hq Yp rfl rfl rfl rfl rfl (by have hb_:=of_decide_eq_true hb; simp only [List.length_cons,List.length_nil]; omega)) O (JLh (.ptr 1054 0) (Q0 Hm O O) O (J0 (u:=.junk) (Hh (u:=.vec 1057 (([(G3.mk 0 0 false 3 0 500000000 500000000 0 [] 0 0 2000)]).length) 12 (([(G3.mk 0 0 false 3 0 500000000 500000000 0 [] 0 0 2000)]).length)) (ds:=[.vec 1057 (([(G3.mk 0 0 false 3 0 500000000 500000000 0 [] 0 0 2000)]).length) 12 (([(G3.mk 0 0 false 3 0 500000000 500000000 0 [] 0 0 2000)]).length),OW 1058 2 G9.av s106.1,G0 s106.2.1,G0 s106.2.2.1,G0 s106.2.2.2.1,G0 s106.2.2.2.2.1,E4 s106.2.2.2.2.2.1,E5 s106.2.2.2.2.2.2.1,E6 s106.2.2.2.2.2.2.2.1,G0 s106.2.2.2.2.2.2.2.2.1,G0 s106.2.2.2.2.2.2.2.2.2.1,G0 s106.2.2.2.2.2.2.2.2.2.2.1,G0 s106.2.2.2.2.2.2.2.2.2.2.2.1]) J04 O O O O O O O O) (G7 ?_))))
    exact ej130 _ _ ([(G3.mk 0 0 false 3 0 500000000 500000000 0 [] 0 0 2000)]) h ⟨⟨.same rfl,.same rfl,.same rfl,G⟩,⟨⟨_,rfl,.vec⟩,⟨_,rfl,.same⟩,⟨_,rfl,.boxL rfl (by repeat' constructor)⟩,⟨_,rfl,.boxL rfl (by repeat' constructor)⟩,G⟩,rfl⟩
   ·
    refine Gr (ej130 _ _ s106.2.2.2.2.2.2.2.2.2.2.2.2 h ⟨⟨.same rfl,.same rfl,.same rfl,G⟩,⟨⟨_,rfl,.vec⟩,⟨_,rfl,.same⟩,⟨_,rfl,.boxL rfl (by repeat' constructor)⟩,⟨_,rfl,.boxL rfl (by repeat' constructor)⟩,G⟩,rfl⟩)
  ·intro j130 h
   replace h:=app1 hkj130 h
   refine Js fun hK132=>Jr fun hK133=>(Rc (G0 0) O (G7 (hK133 (Gx ?_))))
   obtain⟨hx200,h⟩:=Jk h
   obtain⟨b200,kx200,hb200,hkx200,h⟩:=upto_in h
   refine Hz (fun i200 (s200:(List G9)×Int×Int×Int×Int×(List Row)×(List Frame)×(List Gm)×Int×Int×Int×Int)=>upto b200 kx200 ((5:Int).toNat - i200) i200 s200=some r) (fun i200 s200=>[(1,.sc (.int .u32 covers)),(4,.ptr 1053 0),(5,.ptr 1054 0),(11,Ej i200)]) (fun i200 s200=>[(1057,.vec 55 12 j130.length (j130.map G3.av)),(1058,.spare 70 2 s200.1.length s200.1.length),(1053,.box 36 [E7 ([]:List G3),E3 ([]:List G9),G0 0,G0 0,G0 0,G0 0,E4 ([]:List Row),E5 ([]:List Frame),E6 ([]:List Gm),G0 0,G0 0,G0 0,G0 0]),(1054,.box 36 [.vec 1057 j130.length 12 j130.length,OW 1058 2 G9.av s200.1,G0 s200.2.1,G0 s200.2.2.1,G0 s200.2.2.2.1,G0 s200.2.2.2.2.1,E4 s200.2.2.2.2.2.1,E5 s200.2.2.2.2.2.2.1,E6 s200.2.2.2.2.2.2.2.1,G0 s200.2.2.2.2.2.2.2.2.1,G0 s200.2.2.2.2.2.2.2.2.2.1,G0 s200.2.2.2.2.2.2.2.2.2.2.1,G0 s200.2.2.2.2.2.2.2.2.2.2.2])]) (fun i200=>(5:Int).toNat - i200) 0 (s106.1,s106.2.1,s106.2.2.1,s106.2.2.2.1,s106.2.2.2.2.1,s106.2.2.2.2.2.1,s106.2.2.2.2.2.2.1,s106.2.2.2.2.2.2.2.1,s106.2.2.2.2.2.2.2.2.1,s106.2.2.2.2.2.2.2.2.2.1,s106.2.2.2.2.2.2.2.2.2.2.1,s106.2.2.2.2.2.2.2.2.2.2.2.1) h ⟨(by repeat' constructor),⟨⟨_,rfl,.vec⟩,⟨_,rfl,.same⟩,⟨_,rfl,.boxL rfl (by repeat' constructor)⟩,⟨_,rfl,.boxL rfl (by repeat' constructor)⟩,G⟩,rfl⟩ ?_
   clear h
   intro i200 s200 hi200 K200 e200
   refine Js fun hK201=>Jr fun hK202=>(Rc (Ej i200) O (JLh (BL (decide ((i200:Int) < 5))) (Jt O O O) O (G7 (hK202 (Gp O (fun hb=>?_) (fun hb=>?_))))))
   ·
    have hk200:=J39 hb
    obtain⟨nx200,hn200,h⟩:=Hfe hi200 hk200
    replace h:=app3 hb200 h
    refine Gr (hK201 ?_)
    obtain⟨kj203,hkj203,h⟩:=Yh h
    refine R5 (fun j203:(List G9)=>kj203 j203=some r) (fun j203=>[(1,.sc (.int .u32 covers)),(4,.ptr 1053 0),(5,.ptr 1054 0),(11,Ej i200)]) (fun j203=>[(1057,.vec 55 12 j130.length (j130.map G3.av)),(1058,.spare 70 2 j203.length j203.length),(1053,.box 36 [E7 ([]:List G3),E3 ([]:List G9),G0 0,G0 0,G0 0,G0 0,E4 ([]:List Row),E5 ([]:List Frame),E6 ([]:List Gm),G0 0,G0 0,G0 0,G0 0]),(1054,.box 36 [.vec 1057 j130.length 12 j130.length,OW 1058 2 G9.av j203,G0 s200.2.1,G0 s200.2.2.1,G0 s200.2.2.2.1,G0 s200.2.2.2.2.1,E4 s200.2.2.2.2.2.1,E5 s200.2.2.2.2.2.2.1,E6 s200.2.2.2.2.2.2.2.1,G0 s200.2.2.2.2.2.2.2.2.1,G0 s200.2.2.2.2.2.2.2.2.2.1,G0 s200.2.2.2.2.2.2.2.2.2.2.1,G0 s200.2.2.2.2.2.2.2.2.2.2.2])]) (fun Kj203 ej203=>?_) ?_
    ·
     refine Gx ?_
     obtain⟨kj204,hkj204,h⟩:=Yh h
     refine R5 (fun j204:(List G9)=>kj204 j204=some r) (fun j204=>[(1,.sc (.int .u32 covers)),(4,.ptr 1053 0),(5,.ptr 1054 0),(11,Ej i200)]) (fun j204=>[(1057,.vec 55 12 j130.length (j130.map G3.av)),(1058,.spare 70 2 j204.length j204.length),(1053,.box 36 [E7 ([]:List G3),E3 ([]:List G9),G0 0,G0 0,G0 0,G0 0,E4 ([]:List Row),E5 ([]:List Frame),E6 ([]:List Gm),G0 0,G0 0,G0 0,G0 0]),(1054,.box 36 [.vec 1057 j130.length 12 j130.length,OW 1058 2 G9.av j204,G0 s200.2.1,G0 s200.2.2.1,G0 s200.2.2.2.1,G0 s200.2.2.2.2.1,E4 s200.2.2.2.2.2.1,E5 s200.2.2.2.2.2.2.1,E6 s200.2.2.2.2.2.2.2.1,G0 s200.2.2.2.2.2.2.2.2.1,G0 s200.2.2.2.2.2.2.2.2.2.1,G0 s200.2.2.2.2.2.2.2.2.2.2.1,G0 s200.2.2.2.2.2.2.2.2.2.2.2])]) (fun Kj204 ej204=>?_) ?_
     ·
      refine Jr fun hK205=>(Rc (.sc (.int .u32 covers)) O (Rc (Ej i200) O ?_))
      obtain⟨v206,hv206,h⟩:=Jc h
      refine JLh (G0 v206) (He6 hv206 O O O) O ?_
      obtain⟨m207,hm207,h⟩:=Gf h
      refine JLh (.sc (.int .u32 (G6d .u32 covers m207))) (Hc2 (s:=m207) (G28 hm207).1 O O O) O (JLh (.sc (.int .u32 (H0d .u32 (G6d .u32 covers m207) 1))) (J63 O O O) O (JLh (BL (decide ((H0d .u32 (G6d .u32 covers m207) 1)=1))) (Jx O O O) O (G7 (hK205 (JCc O h (fun h hb=>?_) (fun h hb=>?_))))))
      ·
       refine G4 (JLh (.ptr 1054 1) (Q0 Hu O O) O (JLh (OW 1058 2 G9.av s200.1) (Y3 Ja O O O O) O (Rc (Ej i200) O (JLh (E0 [0,1]) (H6 (xs:=[G0 0,G0 1]) O ⟨O,O,O,O,G⟩ Gq Ju O O O O) O (JLh (.agg [Ej i200,E0 [0,1]]) (Hp (cs:=[Ej i200,E0 [0,1]]) [(0,1),(1,1)] [G0 0,E0 ([]:List Int)] [.int .i64 0,.slice none 0 0] Gff H5e ⟨.inl O,.inr ⟨_,O,O⟩,G⟩ O O) O (JLh (E3 ([(G9.mk (i200:Int) [0,1])])) (H6 (xs:=[.agg [Ej i200,E0 [0,1]]]) O ⟨O,O,G⟩ J8 G88 O O O O) O ?_))))))
       obtain⟨ha208,h⟩:=Jk h
       refine JLh (OW 1058 2 G9.av (s200.1++[(G9.mk (i200:Int) [0,1])])) (Ro (f:=G9.av) (xs:=s200.1) (ys:=[(G9.mk (i200:Int) [0,1])]) O O O O J8 J0c ha208 (fun _=>O) (.inl O) O) O (JLh (.ptr 1054 1) (Q0 Hu O O) O (J0 (u:=.junk) (Hh (u:=OW 1058 2 G9.av (s200.1++[(G9.mk (i200:Int) [0,1])])) (ds:=[.vec 1057 j130.length 12 j130.length,OW 1058 2 G9.av (s200.1++[(G9.mk (i200:Int) [0,1])]),G0 s200.2.1,G0 s200.2.2.1,G0 s200.2.2.2.1,G0 s200.2.2.2.2.1,E4 s200.2.2.2.2.2.1,E5 s200.2.2.2.2.2.2.1,E6 s200.2.2.2.2.2.2.2.1,G0 s200.2.2.2.2.2.2.2.2.1,G0 s200.2.2.2.2.2.2.2.2.2.1,G0 s200.2.2.2.2.2.2.2.2.2.2.1,G0 s200.2.2.2.2.2.2.2.2.2.2.2]) J03 O O O O O O O O) (G7 ?_)))
       exact ej204 _ _ (s200.1++[(G9.mk (i200:Int) [0,1])]) h ⟨(by repeat' constructor),⟨⟨_,rfl,.vec⟩,⟨_,rfl,.same⟩,⟨_,rfl,.boxL rfl (by repeat' constructor)⟩,⟨_,rfl,.boxL rfl (by repeat' constructor)⟩,G⟩,rfl⟩
      ·
       refine Gr (ej204 _ _ s200.1 h ⟨(by repeat' constructor),⟨⟨_,rfl,.vec⟩,⟨_,rfl,.same⟩,⟨_,rfl,.boxL rfl (by repeat' constructor)⟩,⟨_,rfl,.boxL rfl (by repeat' constructor)⟩,G⟩,rfl⟩)
     ·intro j204 h
      replace h:=app1 hkj204 h
      refine Jr fun hK209=>(Rc (.sc (.int .u32 covers)) O (Rc (Ej i200) O ?_))
      obtain⟨v210,hv210,h⟩:=Jc h
      refine JLh (G0 v210) (He6 hv210 O O O) O ?_
      obtain⟨v211,hv211,h⟩:=Jc h
      refine JLh (G0 v211) (Hv hv211 O O O) O ?_
      obtain⟨m212,hm212,h⟩:=Gf h
      refine JLh (.sc (.int .u32 (G6d .u32 covers m212))) (Hc2 (s:=m212) (G28 hm212).1 O O O) O (JLh (.sc (.int .u32 (H0d .u32 (G6d .u32 covers m212) 1))) (J63 O O O) O (JLh (BL (decide ((H0d .u32 (G6d .u32 covers m212) 1)=1))) (Jx O O O) O (G7 (hK209 (JCc O h (fun h hb=>?_) (fun h hb=>?_))))))
      ·
       refine G4 (JLh (.ptr 1054 1) (Q0 Hu O O) O (JLh (OW 1058 2 G9.av j204) (Y3 Ja O O O O) O (Rc (Ej i200) O (JLh (E0 [2,3,4]) (H6 (xs:=[G0 2,G0 3,G0 4]) O ⟨O,O,O,O,O,O,G⟩ Gq Ju O O O O) O (JLh (.agg [Ej i200,E0 [2,3,4]]) (Hp (cs:=[Ej i200,E0 [2,3,4]]) [(0,1),(1,1)] [G0 0,E0 ([]:List Int)] [.int .i64 0,.slice none 0 0] Gff H5e ⟨.inl O,.inr ⟨_,O,O⟩,G⟩ O O) O (JLh (E3 ([(G9.mk (i200:Int) [2,3,4])])) (H6 (xs:=[.agg [Ej i200,E0 [2,3,4]]]) O ⟨O,O,G⟩ J8 G88 O O O O) O ?_))))))
       obtain⟨ha213,h⟩:=Jk h
       refine JLh (OW 1058 2 G9.av (j204++[(G9.mk (i200:Int) [2,3,4])])) (Ro (f:=G9.av) (xs:=j204) (ys:=[(G9.mk (i200:Int) [2,3,4])]) O O O O J8 J0c ha213 (fun _=>O) (.inl O) O) O (JLh (.ptr 1054 1) (Q0 Hu O O) O (J0 (u:=.junk) (Hh (u:=OW 1058 2 G9.av (j204++[(G9.mk (i200:Int) [2,3,4])])) (ds:=[.vec 1057 j130.length 12 j130.length,OW 1058 2 G9.av (j204++[(G9.mk (i200:Int) [2,3,4])]),G0 s200.2.1,G0 s200.2.2.1,G0 s200.2.2.2.1,G0 s200.2.2.2.2.1,E4 s200.2.2.2.2.2.1,E5 s200.2.2.2.2.2.2.1,E6 s200.2.2.2.2.2.2.2.1,G0 s200.2.2.2.2.2.2.2.2.1,G0 s200.2.2.2.2.2.2.2.2.2.1,G0 s200.2.2.2.2.2.2.2.2.2.2.1,G0 s200.2.2.2.2.2.2.2.2.2.2.2]) J03 O O O O O O O O) (G7 ?_)))
       exact ej203 _ _ (j204++[(G9.mk (i200:Int) [2,3,4])]) h ⟨(by repeat' constructor),⟨⟨_,rfl,.vec⟩,⟨_,rfl,.same⟩,⟨_,rfl,.boxL rfl (by repeat' constructor)⟩,⟨_,rfl,.boxL rfl (by repeat' constructor)⟩,G⟩,rfl⟩
      ·
       refine Gr (ej203 _ _ j204 h ⟨(by repeat' constructor),⟨⟨_,rfl,.vec⟩,⟨_,rfl,.same⟩,⟨_,rfl,.boxL rfl (by repeat' constructor)⟩,⟨_,rfl,.boxL rfl (by repeat' constructor)⟩,G⟩,rfl⟩)
    ·intro j203 h
     replace h:=app1 hkj203 h
     refine G4 (Rc (Ej i200) O (JLh (G0 ((i200+1:Nat):Int)) (Hv (Hr hk200 (Ha3 hx200)) O O O) O (Rc (G0 ((i200+1:Nat):Int)) O (G7 (e200 _ _ (i200+1) (j203,s200.2.1,s200.2.2.1,s200.2.2.2.1,s200.2.2.2.2.1,s200.2.2.2.2.2.1,s200.2.2.2.2.2.2.1,s200.2.2.2.2.2.2.2.1,s200.2.2.2.2.2.2.2.2.1,s200.2.2.2.2.2.2.2.2.2.1,s200.2.2.2.2.2.2.2.2.2.2.1,s200.2.2.2.2.2.2.2.2.2.2.2) (app1 hn200 h) (by omega) ⟨(by repeat' constructor),⟨⟨_,rfl,.vec⟩,⟨_,rfl,.same⟩,⟨_,rfl,.boxL rfl (by repeat' constructor)⟩,⟨_,rfl,.boxL rfl (by repeat' constructor)⟩,G⟩,rfl⟩)))))
   ·
    have h:=app1 hkx200 (Hff hi200 (H06 hb))
    refine J6 (hK132 ?_)
    refine Jr fun hK214=>(JLh (.agg [.vec 1057 j130.length 12 j130.length,OW 1058 2 G9.av s200.1,G0 s200.2.1,G0 s200.2.2.1,G0 s200.2.2.2.1,G0 s200.2.2.2.2.1,E4 s200.2.2.2.2.2.1,E5 s200.2.2.2.2.2.2.1,E6 s200.2.2.2.2.2.2.2.1,G0 s200.2.2.2.2.2.2.2.2.1,G0 s200.2.2.2.2.2.2.2.2.2.1,G0 s200.2.2.2.2.2.2.2.2.2.2.1,G0 s200.2.2.2.2.2.2.2.2.2.2.2]) (G7d H7 O O O O) O (J0 (u:=.junk) (Hh (u:=.agg [.vec 1057 j130.length 12 j130.length,OW 1058 2 G9.av s200.1,G0 s200.2.1,G0 s200.2.2.1,G0 s200.2.2.2.1,G0 s200.2.2.2.2.1,E4 s200.2.2.2.2.2.1,E5 s200.2.2.2.2.2.2.1,E6 s200.2.2.2.2.2.2.2.1,G0 s200.2.2.2.2.2.2.2.2.1,G0 s200.2.2.2.2.2.2.2.2.2.1,G0 s200.2.2.2.2.2.2.2.2.2.2.1,G0 s200.2.2.2.2.2.2.2.2.2.2.2]) (ds:=[.vec 1057 j130.length 12 j130.length,OW 1058 2 G9.av s200.1,G0 s200.2.1,G0 s200.2.2.1,G0 s200.2.2.2.1,G0 s200.2.2.2.2.1,E4 s200.2.2.2.2.2.1,E5 s200.2.2.2.2.2.2.1,E6 s200.2.2.2.2.2.2.2.1,G0 s200.2.2.2.2.2.2.2.2.1,G0 s200.2.2.2.2.2.2.2.2.2.1,G0 s200.2.2.2.2.2.2.2.2.2.2.1,G0 s200.2.2.2.2.2.2.2.2.2.2.2]) G18 O O O O O O O O) (G7 (hK214 ?_))))
    refine Gv ?_
    obtain rfl:=Option.some.inj h
    exact⟨[.agg [.vec 1057 j130.length 12 j130.length,E3 s200.1,G0 s200.2.1,G0 s200.2.2.1,G0 s200.2.2.2.1,G0 s200.2.2.2.2.1,E4 s200.2.2.2.2.2.1,E5 s200.2.2.2.2.2.2.1,E6 s200.2.2.2.2.2.2.2.1,G0 s200.2.2.2.2.2.2.2.2.1,G0 s200.2.2.2.2.2.2.2.2.2.1,G0 s200.2.2.2.2.2.2.2.2.2.2.1,G0 s200.2.2.2.2.2.2.2.2.2.2.2]],[(1057,.vec 55 12 j130.length (j130.map G3.av))],⟨⟨_,O,.vec⟩,G⟩,O,⟨⟨_,⟨_,_,_,_,O,O,O,.inl ⟨H7,O⟩⟩,.agg ⟨.same O,.list O,.same O,.same O,.same O,.same O,.same O,.same O,.same O,.same O,.same O,.same O,.same O,G⟩⟩,G⟩,j130.length,O,O⟩

def Q2 (l:List Gz) (covers:Int):Option Gt:=
 bnd (Ri l covers) fun r3=>
 each (fun y39 i39 (s39:(List G3)) nx39=>
  jp (fun kj42=>
   bnd (Gd1 (i39:Int) 20) fun v45=>
   G08 (10+v45) fun v46=>
   bnd (H15 v46 4294967295) fun m47=>
   bif decide ((H0d .u32 (G6d .u32 covers m47) 1)=1) then
   (Yn s39 (i39:Int) fun y48=>
    kj42 (s39.set (i39:Int).toNat (G3.mk y48.Bay y48.Row y48.Deck y48.Tiers 8000 y48.Kilos20 y48.Kilos40 y48.Lash y48.Plugs y48.X y48.Y y48.Z)))
   else
   (kj42 s39)) fun(j42:(List G3))=>
  nx39 j42)
 (fun(s39:(List G3))=>
  some (Gt.mk s39 r3.Covers r3.Light r3.Rows r3.Frames r3.Tanks r3.G2)) r3.Columns 0 r3.Columns
theorem Z1 (l:List Gz) (covers:Int) (r:Gt) (h:Q2 l covers=some r):Pure Ek 7 [Eb l,.sc (.int .u32 covers)] (·=.agg (Gt.cs r)):=by
 unfold Q2 at h
 refine H5 [.cell 4 36] Tryz.func7 O O (Jr fun hK1=>(JLh (.ptr 1021 0) (Gc8 1021 [E7 ([]:List G3),E3 ([]:List G9),G0 0,G0 0,G0 0,G0 0,E4 ([]:List Row),E5 ([]:List Frame),E6 ([]:List Gm),G0 0,G0 0,G0 0,G0 0] [.slice none 0 0,.slice none 0 0,.int .i64 0,.int .i64 0,.int .i64 0,.int .i64 0,.slice none 0 0,.slice none 0 0,.slice none 0 0,.int .i64 0,.int .i64 0,.int .i64 0,.int .i64 0] Gb2 ⟨.inr ⟨_,O,O⟩,.inr ⟨_,O,O⟩,.inl O,.inl O,.inl O,.inl O,.inr ⟨_,O,O⟩,.inr ⟨_,O,O⟩,.inr ⟨_,O,O⟩,.inl O,.inl O,.inl O,.inl O,G⟩ O O) O (G7 (hK1 (Jr fun hK2=>(Rc (Eb l) O (Rc (.sc (.int .u32 covers)) O ?_)))))))
 obtain⟨r3,hr3,h⟩:=Gf h
 refine Gd6 O O O (A_callLE (args:=[Eb l,.sc (.int .u32 covers)]) (L0:=[]) (u:=fun p=>.agg [.vec 1057 p 12 r3.Columns.length,E3 r3.Covers,G0 r3.Light.Kilos,G0 r3.Light.X,G0 r3.Light.Y,G0 r3.Light.Z,E4 r3.Rows,E5 r3.Frames,E6 r3.Tanks,G0 r3.G2.Tolerance,G0 r3.G2.Trim,G0 r3.G2.List_,G0 r3.G2.Stability]) (Lr:=fun p=>[(1057,.vec 55 12 p (r3.Columns.map G3.av))]) O (Ge1 l covers r3 hr3) Jc0 ⟨.inl O,O,.inl O,O,G⟩ G O (fun _=>O)) ?_
 rintro u_ L_ ⟨v4,rfl,rfl⟩
 refine JLh (.ptr 1022 0) (Hs 1022 13 G89 O O) O (J0 (u:=.junk) (Hh (u:=.agg [.vec 1057 v4 12 r3.Columns.length,E3 r3.Covers,G0 r3.Light.Kilos,G0 r3.Light.X,G0 r3.Light.Y,G0 r3.Light.Z,E4 r3.Rows,E5 r3.Frames,E6 r3.Tanks,G0 r3.G2.Tolerance,G0 r3.G2.Trim,G0 r3.G2.List_,G0 r3.G2.Stability]) (ds:=[.vec 1057 v4 12 r3.Columns.length,E3 r3.Covers,G0 r3.Light.Kilos,G0 r3.Light.X,G0 r3.Light.Y,G0 r3.Light.Z,E4 r3.Rows,E5 r3.Frames,E6 r3.Tanks,G0 r3.G2.Tolerance,G0 r3.G2.Trim,G0 r3.G2.List_,G0 r3.G2.Stability]) G18 O O O O O O O O) (G7 (hK2 (Js fun hK5=>?_))))
 refine Jr fun hK6=>(JLh (.ptr 1022 0) (Q0 Hm O O) O (JLh (.vec 1057 v4 12 r3.Columns.length) (Y3 J4 O O O O) O (J86 (f:=G3.av) (xs:=r3.Columns) Hq O O O (fun hm12=>?_) O O O)))
 refine Rc (G0 0) O (G7 (hK6 (Gx ?_)))
 obtain⟨b39,kx39,hb39,hkx39,h⟩:=Jh h
 refine Hz (fun i39 (s39:(List G3))=>each b39 kx39 (List.drop i39 r3.Columns) i39 s39=some r) (fun i39 s39=>[(1,.sc (.int .u32 covers)),(4,.ptr 1021 0),(5,.ptr 1022 0),(12,Ej r3.Columns.length),(13,Ej i39)]) (fun i39 s39=>[(1057,.vec 55 12 v4 (s39.map G3.av)),(1021,.box 36 [E7 ([]:List G3),E3 ([]:List G9),G0 0,G0 0,G0 0,G0 0,E4 ([]:List Row),E5 ([]:List Frame),E6 ([]:List Gm),G0 0,G0 0,G0 0,G0 0]),(1022,.box 36 [.vec 1057 v4 12 r3.Columns.length,E3 r3.Covers,G0 r3.Light.Kilos,G0 r3.Light.X,G0 r3.Light.Y,G0 r3.Light.Z,E4 r3.Rows,E5 r3.Frames,E6 r3.Tanks,G0 r3.G2.Tolerance,G0 r3.G2.Trim,G0 r3.G2.List_,G0 r3.G2.Stability])]) (fun i39=>r3.Columns.length - i39) 0 r3.Columns h ⟨(by repeat' constructor),⟨⟨_,rfl,.vec⟩,⟨_,rfl,.boxL rfl (by repeat' constructor)⟩,⟨_,rfl,.boxL rfl (by repeat' constructor)⟩,G⟩,rfl⟩ ?_
 clear h
 intro i39 s39 hi39 K39 e39
 refine Jr fun hK40=>(JLh (BL (decide ((i39:Int) < (r3.Columns.length:Int)))) (Jt O O O) O (G7 (hK40 (Js fun hK41=>Gp O (fun hb=>?_) (fun hb=>?_)))))
 ·
  have hk39:=Q7 hb
  obtain⟨y39,nx39,hy39,hn39,h⟩:=J1 hi39 hk39
  replace h:=Zj hb39 h
  refine Gr (hK41 ?_)
  obtain⟨kj42,hkj42,h⟩:=Yh h
  refine R5 (fun j42:(List G3)=>kj42 j42=some r) (fun j42=>[(1,.sc (.int .u32 covers)),(4,.ptr 1021 0),(5,.ptr 1022 0),(12,Ej r3.Columns.length),(13,Ej i39)]) (fun j42=>[(1057,.vec 55 12 v4 (j42.map G3.av)),(1021,.box 36 [E7 ([]:List G3),E3 ([]:List G9),G0 0,G0 0,G0 0,G0 0,E4 ([]:List Row),E5 ([]:List Frame),E6 ([]:List Gm),G0 0,G0 0,G0 0,G0 0]),(1022,.box 36 [.vec 1057 v4 12 r3.Columns.length,E3 r3.Covers,G0 r3.Light.Kilos,G0 r3.Light.X,G0 r3.Light.Y,G0 r3.Light.Z,E4 r3.Rows,E5 r3.Frames,E6 r3.Tanks,G0 r3.G2.Tolerance,G0 r3.G2.Trim,G0 r3.G2.List_,G0 r3.G2.Stability])]) (fun Kj42 ej42=>?_) ?_
  ·
   refine Gx (Jr fun hK43=>(Rc (Ej i39) O (Rc (Ej i39) O (G7 (hK43 (Jr fun hK44=>(Rc (.sc (.int .u32 covers)) O (Rc (Ej i39) O ?_))))))))
   obtain⟨v45,hv45,h⟩:=Gf h
   refine JLh (G0 v45) (Gf4 (Jw hv45).1 (Jw hv45).2 O O O) O ?_
   obtain⟨v46,hv46,h⟩:=Jc h
   refine JLh (G0 v46) (Hv hv46 O O O) O ?_
   obtain⟨m47,hm47,h⟩:=Gf h
   refine JLh (.sc (.int .u32 (G6d .u32 covers m47))) (Hc2 (s:=m47) (G28 hm47).1 O O O) O (JLh (.sc (.int .u32 (H0d .u32 (G6d .u32 covers m47) 1))) (J63 O O O) O (JLh (BL (decide ((H0d .u32 (G6d .u32 covers m47) 1)=1))) (Jx O O O) O (G7 (hK44 (JCc O h (fun h hb=>?_) (fun h hb=>?_))))))
   ·
    refine G4 (JLh (.ptr 1022 0) (Q0 Hm O O) O (JLh (.vec 1057 v4 12 r3.Columns.length) (Y3 J4 O O O O) O (Rc (Ej i39) O ?_)))
    obtain⟨y48,hmy48,hy48,h⟩:=gidx_outT h
    refine JLh (.vptr 1057 v4 ((i39:Int).toNat) 0) (A_vidxM (f:=G3.av) (xs:=s39) (y:=y48) O O O O Hq hy48 hmy48) O (JLh (.vptr 1057 v4 ((i39:Int).toNat) 4) (A_vfield Gde O O O) O (J0 (u:=.junk) (A_vstoreF (f:=G3.av) (xs:=s39) (e:=y48) (z:=(G3.mk y48.Bay y48.Row y48.Deck y48.Tiers 8000 y48.Kilos20 y48.Kilos40 y48.Lash y48.Plugs y48.X y48.Y y48.Z)) (u:=G0 8000) Gad O O O O hy48 O O O O O) (G7 (ej42 _ _ (s39.set (i39:Int).toNat (G3.mk y48.Bay y48.Row y48.Deck y48.Tiers 8000 y48.Kilos20 y48.Kilos40 y48.Lash y48.Plugs y48.X y48.Y y48.Z)) h ⟨(by repeat' constructor),⟨⟨_,rfl,.vec⟩,⟨_,rfl,.boxL rfl (by repeat' constructor)⟩,⟨_,rfl,.boxL rfl (by repeat' constructor)⟩,G⟩,rfl⟩))))
   ·
    refine Gr (ej42 _ _ s39 h ⟨(by repeat' constructor),⟨⟨_,rfl,.vec⟩,⟨_,rfl,.boxL rfl (by repeat' constructor)⟩,⟨_,rfl,.boxL rfl (by repeat' constructor)⟩,G⟩,rfl⟩)
  ·intro j42 h
   replace h:=app1 hkj42 h
   refine G4 (JLh (G0 ((i39+1:Nat):Int)) (Hv (Hr hk39 hm12) O O O) O (Rc (G0 ((i39+1:Nat):Int)) O (G7 (e39 _ _ (i39+1) j42 (app1 hn39 h) (by omega) ⟨(by repeat' constructor),⟨⟨_,rfl,.vec⟩,⟨_,rfl,.boxL rfl (by repeat' constructor)⟩,⟨_,rfl,.boxL rfl (by repeat' constructor)⟩,G⟩,rfl⟩))))
 ·
  have h:=app1 hkx39 (J2 hi39 (Hg hb))
  refine J6 (hK5 ?_)
  refine Jr fun hK49=>(JLh (.agg [.vec 1057 v4 12 r3.Columns.length,E3 r3.Covers,G0 r3.Light.Kilos,G0 r3.Light.X,G0 r3.Light.Y,G0 r3.Light.Z,E4 r3.Rows,E5 r3.Frames,E6 r3.Tanks,G0 r3.G2.Tolerance,G0 r3.G2.Trim,G0 r3.G2.List_,G0 r3.G2.Stability]) (G7d H7 O O O O) O (J0 (u:=.junk) (Hh (u:=.agg [.vec 1057 v4 12 r3.Columns.length,E3 r3.Covers,G0 r3.Light.Kilos,G0 r3.Light.X,G0 r3.Light.Y,G0 r3.Light.Z,E4 r3.Rows,E5 r3.Frames,E6 r3.Tanks,G0 r3.G2.Tolerance,G0 r3.G2.Trim,G0 r3.G2.List_,G0 r3.G2.Stability]) (ds:=[.vec 1057 v4 12 r3.Columns.length,E3 r3.Covers,G0 r3.Light.Kilos,G0 r3.Light.X,G0 r3.Light.Y,G0 r3.Light.Z,E4 r3.Rows,E5 r3.Frames,E6 r3.Tanks,G0 r3.G2.Tolerance,G0 r3.G2.Trim,G0 r3.G2.List_,G0 r3.G2.Stability]) G18 O O O O O O O O) (G7 (hK49 ?_))))
  refine JC_vgiveB 1021 0 (v4+1) O O O (Nat.lt_succ_self _) (cs':=[E7 s39,E3 r3.Covers,G0 r3.Light.Kilos,G0 r3.Light.X,G0 r3.Light.Y,G0 r3.Light.Z,E4 r3.Rows,E5 r3.Frames,E6 r3.Tanks,G0 r3.G2.Tolerance,G0 r3.G2.Trim,G0 r3.G2.List_,G0 r3.G2.Stability]) O (Gv (⟨[.agg [E7 s39,E3 r3.Covers,G0 r3.Light.Kilos,G0 r3.Light.X,G0 r3.Light.Y,G0 r3.Light.Z,E4 r3.Rows,E5 r3.Frames,E6 r3.Tanks,G0 r3.G2.Tolerance,G0 r3.G2.Trim,G0 r3.G2.List_,G0 r3.G2.Stability]],[],G,O,⟨⟨_,⟨_,_,_,_,O,O,O,.inl ⟨H7,O⟩⟩,.conv (.same O)⟩,G⟩,O,congrArg (fun r:Gt=>(.agg (Gt.cs r):AV)) (Option.some.inj h)⟩))
end
end Go.Proofs.YtbljcmgjmieffaaGreat
