/-
 Models of functions of the program,and that they return what the models say.
-/
import Derived.Test.YtpgkkengffpnpaaGreatSpecP
set_option linter.unnecessarySimpa false
set_option maxRecDepth 100000
set_option maxHeartbeats 1000000
set_option linter.unusedVariables false
set_option linter.unusedSimpArgs false
namespace Go.Proofs.YtpgkkengffpnpaaGreat
open Go.RowKit
noncomputable section
structure Gy where
 Bay:Int
 Row:Int
 Tiers:Int
 Deck:Bool
 deriving DecidableEq,Inhabited
def Gy.cs (x:Gy):List AV:=[U8 x.Bay,U8 x.Row,U8 x.Tiers,BL x.Deck]
def Gy.av (x:Gy):AV:=.agg x.cs
abbrev Eb:=LS 4 Gy.av
structure Gi where
 G4:Int
 Kilos:Int
 Small:Bool
 High:Bool
 deriving DecidableEq,Inhabited
def Gi.cs (x:Gi):List AV:=[U8 x.G4,U8 x.Kilos,BL x.Small,BL x.High]
def Gi.av (x:Gi):AV:=.agg x.cs
abbrev Ei (x:Gi):AV:=.dptr (Gi.cs x)
abbrev E9:=LS 4 Gi.av
namespace XBF
open XAF
open XCF
open XGF
open XHF
theorem Q0d:Gba Ek 108 4=true:=by kernel_rfl
theorem tf_agg_59:Gba Ek 59 4=true:=by kernel_rfl
theorem Jfd:Hk Ek 52=true:=by kernel_rfl
theorem Jef:Hk Ek 85=true:=by kernel_rfl
theorem Jd1:Y7 Ek 110 12 112=true:=by kernel_rfl
theorem J0d:Y7 Ek 113 2 32=true:=by kernel_rfl
theorem H96:Y7 Ek 61 9 64=true:=by kernel_rfl
theorem J4e:Jt Ek 108 0 0=true:=by kernel_rfl
theorem J4d:Jt Ek 108 1 1=true:=by kernel_rfl
theorem J4c:Jt Ek 108 2 2=true:=by kernel_rfl
theorem J4b:Jt Ek 108 3 3=true:=by kernel_rfl
theorem Jb7:Jt Ek 59 0 0=true:=by kernel_rfl
theorem H85:Jt Ek 59 1 1=true:=by kernel_rfl
theorem H04:Jt Ek 59 2 2=true:=by kernel_rfl
theorem Jb6:Jt Ek 59 3 3=true:=by kernel_rfl
theorem H0b:Hcb Ek 5 .u8=true:=by kernel_rfl
theorem G01:placesOf Ek 110=some [(0,1),(1,1),(2,1),(3,1),(4,1),(5,1),(6,1),(7,1),(8,1),(9,1),(10,1),(11,1)]:=by kernel_rfl
theorem H02:placesOf Ek 113=some [(0,1),(1,1)]:=by kernel_rfl
theorem Jd0:Rt Ek 108 4=true:=by kernel_rfl
theorem J44:Rt Ek 25 1=true:=by kernel_rfl
theorem J43:Rt Ek 26 1=true:=by kernel_rfl
theorem G48:Rt Ek 3 1=true:=by kernel_rfl
theorem Z1:Rt Ek 35 13=true:=by kernel_rfl
theorem tf_size_4:Rt Ek 4 1=true:=by kernel_rfl
theorem Hec:Rt Ek 5 1=true:=by kernel_rfl
theorem Jeb:Rt Ek 59 4=true:=by kernel_rfl
theorem Gf1:sliceB Ek 22 108 4=true:=by kernel_rfl
theorem Gf0:sliceB Ek 24 59 4=true:=by kernel_rfl
theorem G36:(Ek.info? 110).bind (fun i=>i.zero.map Value.cells)=some (List.toArray [.int .i64 0,.int .i64 0,.bool false,.int .i64 0,.int .i64 0,.int .i64 0,.int .i64 0,.int .i64 0,.slice none 0 0,.int .i64 0,.int .i64 0,.int .i64 0]):=by kernel_rfl
theorem H42:(Ek.info? 113).bind (fun i=>i.zero.map Value.cells)=some (List.toArray [.int .i64 0,.slice none 0 0]):=by kernel_rfl
theorem G92:(Ek.info? 35).bind (fun i=>i.zero.map Value.cells)=some (List.toArray [.slice none 0 0,.slice none 0 0,.int .i64 0,.int .i64 0,.int .i64 0,.int .i64 0,.slice none 0 0,.slice none 0 0,.slice none 0 0,.int .i64 0,.int .i64 0,.int .i64 0,.int .i64 0]):=by kernel_rfl
theorem Jc0:Re Ek 108 4=true:=by kernel_rfl
theorem Jcb:Re Ek 59 4=true:=by kernel_rfl
end XBF
open XAF
open XCF
open XGF
open XHF
open XBF

def Ga4 (c:G4) (p1:Int) (p2:Int) (p3:Bool):Option Bool:=
 some (((decide (c.Bay=p1))&&(decide (c.Row=p2)))&&(c.Deck==p3))
theorem J30 (c:G4) (p1:Int) (p2:Int) (p3:Bool) (r:Bool) (h:Ga4 c p1 p2 p3=some r):Pure Ek 85 [.agg (G4.cs c),.dptr [G0 p1],.dptr [G0 p2],.dptr [BL p3]] (·=BL r):=by
 unfold Ga4 at h
 refine H6 [.tmp 5] Tryz.func85 O O (Jr fun hK1=>(JLh (.ptr 1145 0) (Jn (cs:=(G4.cs c)) 1145 O O O O O) O (Yv (BL false) O (G7 (hK1 (Gt [(1,.dptr [G0 p1]),(2,.dptr [G0 p2]),(3,.dptr [BL p3]),(4,Ee c)] [] 1145 rfl rfl rfl G rfl (by repeat' (first | exact .ptr | constructor)) ?_))))))
 refine Jr fun hK2=>(JLh (Ee c) (Gf G0c O O O) O (JLh (G0 c.Bay) (Gj Gb O O O) O (JLh (G0 p1) (Gj Gb O O O) O (JLh (BL (decide (c.Bay=p1))) (Q0 O O O) O (Yv (BL (decide (c.Bay=p1))) O (JLo (.dptr [G0 c.Row,BL c.Deck,G0 c.Tiers,G0 c.Height,G0 c.Kilos20,G0 c.Kilos40,G0 c.Lash,E0 c.Plugs,G0 c.X,G0 c.Y,G0 c.Z]) [] O .sct G (fun hc=>Gf G0b O O O) O (JLo (G0 c.Row) [11] O .sct ⟨Ua,G⟩ (fun hc=>Gj Gb O O O) O (JLo (G0 p2) [] O .sct G (fun hc=>Gj Gb O O O) O (JLo (BL (decide (c.Row=p2))) [12,13] O .sct ⟨Ua,Ua,G⟩ (fun hc=>Q0 O O O) O (JLh (BL ((decide (c.Bay=p1))&&(decide (c.Row=p2)))) (Qd O O O O) O (Yv (BL ((decide (c.Bay=p1))&&(decide (c.Row=p2)))) O (JLo (.dptr [BL c.Deck,G0 c.Tiers,G0 c.Height,G0 c.Kilos20,G0 c.Kilos40,G0 c.Lash,E0 c.Plugs,G0 c.X,G0 c.Y,G0 c.Z]) [] O .sct G (fun hc=>Gf Yo O O O) O (JLo (BL c.Deck) [17] O .sct ⟨Ua,G⟩ (fun hc=>Gj Qv O O O) O ?_)))))))))))))
 refine JLo (BL p3) [] O .sct G (fun hc=>Gj Qv O O O) O (JLo (BL (c.Deck==p3)) [18,19] O .sct ⟨Ua,Ua,G⟩ (fun hc=>Jaf G97 O O O) O (JLh (BL (((decide (c.Bay=p1))&&(decide (c.Row=p2)))&&(c.Deck==p3))) (Qd O O O O) O (Yv (BL (((decide (c.Bay=p1))&&(decide (c.Row=p2)))&&(c.Deck==p3))) O (G7 (hK2 (Gx (fin1 BL h)))))))

def Gb2 (s:Gp) (bay:Int) (row:Int) (deck:Bool):Option (Int×Bool):=
 bnd (Qi s.Columns (fun z0=>Ga4 z0 bay row deck)) fun r3=>
 bif decide ((r3.length:Int)=0) then
 (some (0,false))
 else
 (Z2 r3 0 fun y8=>
  some (y8,true))
theorem M_ship_Find_w (s:Gp) (bay:Int) (row:Int) (deck:Bool) (r:Int×Bool) (h:Gb2 s bay row deck=some r):Pure Ek 52 [.agg (Gp.cs s),G0 bay,G0 row,BL deck] (·=.tup [G0 r.1,BL r.2]):=by
 unfold Gb2 at h
 refine H6 [.tmp 8,.tmp 9] Tryz.func52 O O (Jr fun hK1=>(JLh (.ptr 1118 0) (Jn (cs:=(Gp.cs s)) 1118 O O O O O) O (JLh (.ptr 1119 0) (Jn (cs:=[G0 bay]) 1119 O O O O O) O (JLh (.ptr 1120 0) (Jn (cs:=[G0 row]) 1120 O O O O O) O (JLh (.ptr 1121 0) (Jn (cs:=[BL deck]) 1121 O O O O O) O (Yv (G0 0) O (Yv (BL false) O (G7 (hK1 ?_)))))))))
 refine Gt [(4,Ec s),(5,.ptr 1119 0),(6,.ptr 1120 0),(7,.ptr 1121 0)] [(1119,.box 3 [G0 bay]),(1120,.box 3 [G0 row]),(1121,.box 4 [BL deck])] 1118 rfl rfl rfl ⟨⟨_,rfl,.boxEq rfl rfl⟩,⟨_,rfl,.boxEq rfl rfl⟩,⟨_,rfl,.boxEq rfl rfl⟩,G⟩ rfl (by repeat' (first | exact .ptr | constructor)) ?_
 refine Gt [(4,Ec s),(5,.dptr [G0 bay]),(6,.ptr 1120 0),(7,.ptr 1121 0)] [(1120,.box 3 [G0 row]),(1121,.box 4 [BL deck])] 1119 rfl rfl rfl ⟨⟨_,rfl,.boxEq rfl rfl⟩,⟨_,rfl,.boxEq rfl rfl⟩,G⟩ rfl (by repeat' (first | exact .ptr | constructor)) ?_
 refine Gt [(4,Ec s),(5,.dptr [G0 bay]),(6,.dptr [G0 row]),(7,.ptr 1121 0)] [(1121,.box 4 [BL deck])] 1120 rfl rfl rfl ⟨⟨_,rfl,.boxEq rfl rfl⟩,G⟩ rfl (by repeat' (first | exact .ptr | constructor)) ?_
 refine Gt [(4,Ec s),(5,.dptr [G0 bay]),(6,.dptr [G0 row]),(7,.dptr [BL deck])] [] 1121 rfl rfl rfl G rfl (by repeat' (first | exact .ptr | constructor)) ?_
 refine Jr fun hK2=>(JLh (Ec s) (Gf Jc O O O) O (JLh (E3 s.Columns) (Gj Jv O O O) O (JLh (.fn 85 [.dptr [G0 bay],.dptr [G0 row],.dptr [BL deck]]) (Yg (cs:=[.dptr [G0 bay],.dptr [G0 row],.dptr [BL deck]]) O O) O ?_)))
 obtain⟨r3,hr3,h⟩:=Gd h
 refine JLh (E0 r3) (Gu O (G56 s.Columns (fun z0=>Ga4 z0 bay row deck) 85 [.dptr [G0 bay],.dptr [G0 row],.dptr [BL deck]] Jef O (fun z0 q hq=>J30 z0 bay row deck q hq) r3 hr3) J50 ⟨O,O,O,O,G⟩) O (Yv (E0 r3) O (G7 (hK2 (Js fun hK4=>Jr fun hK5=>(Yv (E0 r3) O (JLl Gq O O O fun hm16=>(JLh (BL (decide ((r3.length:Int)=0))) (Q0 O O O) O (G7 (hK5 (JCc O h (fun h hb=>?_) (fun h hb=>?_)))))))))))
 ·
  refine Jr fun hK6=>(Yv (G0 0) O (Yv (BL false) O (G7 (hK6 (Gx (⟨[G0 0,BL false],[],G,O,⟨⟨_,O,.conv (.same O)⟩,⟨_,O,.conv (.same O)⟩,G⟩,O,congrArg (fun r:Int×Bool=>(.tup [G0 r.1,BL r.2]:AV)) (Option.some.inj h)⟩))))))
 ·
  refine Gr (hK4 (Jr fun hK7=>(Yv (E0 r3) O ?_)))
  obtain⟨m9,y8,hm9,hy8,h⟩:=Z5 h
  refine JLh (.dptr [G0 y8]) (Hb (f:=G0) (xs:=r3) (y:=y8) O O O Gq hy8 hm9) O (JLh (G0 y8) (Gj Gb O O O) O (Yv (G0 y8) O (Yv (BL true) O (G7 (hK7 (Gx (⟨[G0 y8,BL true],[],G,O,⟨⟨_,O,.conv (.same O)⟩,⟨_,O,.conv (.same O)⟩,G⟩,O,congrArg (fun r:Int×Bool=>(.tup [G0 r.1,BL r.2]:AV)) (Option.some.inj h)⟩)))))))

def Rz (l:List Gy) (covers:Int):Option Gp:=
 bnd (Hc6 (min (l.length:Int) 12) l.length) fun m5=>
 each (fun y106 i106 (s106:(List G4)×(List Ga)×Int×Int×Int×Int×(List Row)×(List Frame)×(List Gk)×Int×Int×Int×Int) nx106=>
  jp (fun kj109=>
   G0d (y106.Bay) fun v112=>
   bnd (H87 v112 5) fun v113=>
   G0d (y106.Row) fun v114=>
   bnd (H87 v114 5) fun v115=>
   G0d (y106.Tiers) fun v116=>
   bnd (H87 v116 4) fun v117=>
   G0d (2+v117) fun v118=>
   G0d (13000*v113) fun v120=>
   G0d (v120 - 26000) fun v121=>
   G0d (2500*v115) fun v122=>
   G0d (v122 - 5000) fun v123=>
   jp (fun kj124=>
    bif y106.Deck then
    (kj124 20000)
    else
    (kj124 2000)) fun(j124:Int)=>
   bnd (Gb2 (Gp.mk s106.1 s106.2.1 (Light.mk s106.2.2.1 s106.2.2.2.1 s106.2.2.2.2.1 s106.2.2.2.2.2.1) s106.2.2.2.2.2.2.1 s106.2.2.2.2.2.2.2.1 s106.2.2.2.2.2.2.2.2.1 (G2.mk s106.2.2.2.2.2.2.2.2.2.1 s106.2.2.2.2.2.2.2.2.2.2.1 s106.2.2.2.2.2.2.2.2.2.2.2.1 s106.2.2.2.2.2.2.2.2.2.2.2.2)) v113 v115 y106.Deck) fun r127=>
   bif (!r127.2) then
   (need (decide ((s106.1.length+[(G4.mk v113 v115 y106.Deck v118 0 500000000 500000000 0 [] v121 v123 j124)].length)*112≤140737488355328∧s106.1.length+[(G4.mk v113 v115 y106.Deck v118 0 500000000 500000000 0 [] v121 v123 j124)].length≤maxLen)) <|
    kj109 (s106.1++[(G4.mk v113 v115 y106.Deck v118 0 500000000 500000000 0 [] v121 v123 j124)]))
   else
   (kj109 s106.1)) fun(j109:(List G4))=>
  nx106 (j109,s106.2.1,s106.2.2.1,s106.2.2.2.1,s106.2.2.2.2.1,s106.2.2.2.2.2.1,s106.2.2.2.2.2.2.1,s106.2.2.2.2.2.2.2.1,s106.2.2.2.2.2.2.2.2.1,s106.2.2.2.2.2.2.2.2.2.1,s106.2.2.2.2.2.2.2.2.2.2.1,s106.2.2.2.2.2.2.2.2.2.2.2.1,s106.2.2.2.2.2.2.2.2.2.2.2.2))
 (fun(s106:(List G4)×(List Ga)×Int×Int×Int×Int×(List Row)×(List Frame)×(List Gk)×Int×Int×Int×Int)=>
  jp (fun kj130=>
   bif decide ((s106.1.length:Int)=0) then
   (kj130 ([(G4.mk 0 0 false 3 0 500000000 500000000 0 [] 0 0 2000)]))
   else
   (kj130 s106.1)) fun(j130:(List G4))=>
  need (decide (5≤9223372036854775807)) <|
  upto (fun i200 (s200:(List G4)×(List Ga)×Int×Int×Int×Int×(List Row)×(List Frame)×(List Gk)×Int×Int×Int×Int) nx200=>
   jp (fun kj203=>
    jp (fun kj204=>
     G0d (2*(i200:Int)) fun v206=>
     bnd (Hc6 v206 4294967295) fun m207=>
     bif decide ((band .u32 (Hf0 .u32 covers m207) 1)=1) then
     (need (decide ((s200.2.1.length+[(Ga.mk (i200:Int) [0,1])].length)*32≤140737488355328∧s200.2.1.length+[(Ga.mk (i200:Int) [0,1])].length≤maxLen)) <|
      kj204 (s200.2.1++[(Ga.mk (i200:Int) [0,1])]))
     else
     (kj204 s200.2.1)) fun(j204:(List Ga))=>
    G0d (2*(i200:Int)) fun v210=>
    G0d (v210+1) fun v211=>
    bnd (Hc6 v211 4294967295) fun m212=>
    bif decide ((band .u32 (Hf0 .u32 covers m212) 1)=1) then
    (need (decide ((j204.length+[(Ga.mk (i200:Int) [2,3,4])].length)*32≤140737488355328∧j204.length+[(Ga.mk (i200:Int) [2,3,4])].length≤maxLen)) <|
     kj203 (j204++[(Ga.mk (i200:Int) [2,3,4])]))
    else
    (kj203 j204)) fun(j203:(List Ga))=>
   nx200 (s200.1,j203,s200.2.2.1,s200.2.2.2.1,s200.2.2.2.2.1,s200.2.2.2.2.2.1,s200.2.2.2.2.2.2.1,s200.2.2.2.2.2.2.2.1,s200.2.2.2.2.2.2.2.2.1,s200.2.2.2.2.2.2.2.2.2.1,s200.2.2.2.2.2.2.2.2.2.2.1,s200.2.2.2.2.2.2.2.2.2.2.2.1,s200.2.2.2.2.2.2.2.2.2.2.2.2))
  (fun(s200:(List G4)×(List Ga)×Int×Int×Int×Int×(List Row)×(List Frame)×(List Gk)×Int×Int×Int×Int)=>
   some (Gp.mk s200.1 s200.2.1 (Light.mk s200.2.2.1 s200.2.2.2.1 s200.2.2.2.2.1 s200.2.2.2.2.2.1) s200.2.2.2.2.2.2.1 s200.2.2.2.2.2.2.2.1 s200.2.2.2.2.2.2.2.2.1 (G2.mk s200.2.2.2.2.2.2.2.2.2.1 s200.2.2.2.2.2.2.2.2.2.2.1 s200.2.2.2.2.2.2.2.2.2.2.2.1 s200.2.2.2.2.2.2.2.2.2.2.2.2))) (5:Int).toNat 0 (j130,s106.2.1,s106.2.2.1,s106.2.2.2.1,s106.2.2.2.2.1,s106.2.2.2.2.2.1,s106.2.2.2.2.2.2.1,s106.2.2.2.2.2.2.2.1,s106.2.2.2.2.2.2.2.2.1,s106.2.2.2.2.2.2.2.2.2.1,s106.2.2.2.2.2.2.2.2.2.2.1,s106.2.2.2.2.2.2.2.2.2.2.2.1,s106.2.2.2.2.2.2.2.2.2.2.2.2)) (l.take m5) 0 ([],[],0,0,0,0,[],[],[],0,0,0,0)
theorem G5f (l:List Gy) (covers:Int) (r:Gp) (h:Rz l covers=some r):Pure Ek 21 [Eb l,.sc (.int .u32 covers)] (·=.agg (Gp.cs r)):=by
 unfold Rz at h
 refine H6 [.cell 4 35] Tryz.func21 O O (Jr fun hK1=>(JLh (.ptr 1055 0) (G8f 1055 [E3 ([]:List G4),E8 ([]:List Ga),G0 0,G0 0,G0 0,G0 0,E5 ([]:List Row),E6 ([]:List Frame),E7 ([]:List Gk),G0 0,G0 0,G0 0,G0 0] [.slice none 0 0,.slice none 0 0,.int .i64 0,.int .i64 0,.int .i64 0,.int .i64 0,.slice none 0 0,.slice none 0 0,.slice none 0 0,.int .i64 0,.int .i64 0,.int .i64 0,.int .i64 0] G92 ⟨.inr ⟨_,O,O⟩,.inr ⟨_,O,O⟩,.inl O,.inl O,.inl O,.inl O,.inr ⟨_,O,O⟩,.inr ⟨_,O,O⟩,.inr ⟨_,O,O⟩,.inl O,.inl O,.inl O,.inl O,G⟩ O O) O (G7 (hK1 ?_))))
 refine Jr fun hK2=>(JLh (.ptr 1056 0) (G8f 1056 [.sc (.slice none 0 0),.sc (.slice none 0 0),G0 0,G0 0,G0 0,G0 0,E5 ([]:List Row),E6 ([]:List Frame),E7 ([]:List Gk),G0 0,G0 0,G0 0,G0 0] [.slice none 0 0,.slice none 0 0,.int .i64 0,.int .i64 0,.int .i64 0,.int .i64 0,.slice none 0 0,.slice none 0 0,.slice none 0 0,.int .i64 0,.int .i64 0,.int .i64 0,.int .i64 0] G92 ⟨.inl O,.inl O,.inl O,.inl O,.inl O,.inl O,.inr ⟨_,O,O⟩,.inr ⟨_,O,O⟩,.inr ⟨_,O,O⟩,.inl O,.inl O,.inl O,.inl O,G⟩ O O) O (H31 1056 0 1059 110 12 O O O (cs':=[OW 1059 12 G4.av ([]:List G4),.sc (.slice none 0 0),G0 0,G0 0,G0 0,G0 0,E5 ([]:List Row),E6 ([]:List Frame),E7 ([]:List Gk),G0 0,G0 0,G0 0,G0 0]) O ?_))
 refine H31 1056 1 1060 113 2 O O O (cs':=[OW 1059 12 G4.av ([]:List G4),OW 1060 2 Ga.av ([]:List Ga),G0 0,G0 0,G0 0,G0 0,E5 ([]:List Row),E6 ([]:List Frame),E7 ([]:List Gk),G0 0,G0 0,G0 0,G0 0]) O (G7 (hK2 (Js fun hK3=>Jr fun hK4=>(Yv (Eb l) O (Yv (Eb l) O (JLl Gf1 O O O fun hm14=>(JLh (G0 (min (l.length:Int) 12)) (A_min O O O) O ?_)))))))
 obtain⟨m5,hm5,h⟩:=Gd h
 refine JLh (Eb (l.take m5)) (Hb0 (f:=Gy.av) (xs:=l) O O O Gf1 (H0f hm5)) O (JLl Gf1 O O O fun hm17=>(Yv (G0 0) O (G7 (hK4 (Gw ?_)))))
 obtain⟨b106,kx106,hb106,hkx106,h⟩:=J0 h
 refine Hp (fun i106 (s106:(List G4)×(List Ga)×Int×Int×Int×Int×(List Row)×(List Frame)×(List Gk)×Int×Int×Int×Int)=>each b106 kx106 (List.drop i106 (l.take m5)) i106 s106=some r) (fun i106 s106=>[(1,.sc (.int .u32 covers)),(4,.ptr 1055 0),(5,.ptr 1056 0),(16,Eb (l.take m5)),(17,G0 ((l.take m5).length:Int)),(18,Ej i106)]) (fun i106 s106=>[(1059,.spare 110 12 s106.1.length s106.1.length),(1060,.spare 113 2 s106.2.1.length s106.2.1.length),(1055,.box 35 [E3 ([]:List G4),E8 ([]:List Ga),G0 0,G0 0,G0 0,G0 0,E5 ([]:List Row),E6 ([]:List Frame),E7 ([]:List Gk),G0 0,G0 0,G0 0,G0 0]),(1056,.box 35 [OW 1059 12 G4.av s106.1,OW 1060 2 Ga.av s106.2.1,G0 s106.2.2.1,G0 s106.2.2.2.1,G0 s106.2.2.2.2.1,G0 s106.2.2.2.2.2.1,E5 s106.2.2.2.2.2.2.1,E6 s106.2.2.2.2.2.2.2.1,E7 s106.2.2.2.2.2.2.2.2.1,G0 s106.2.2.2.2.2.2.2.2.2.1,G0 s106.2.2.2.2.2.2.2.2.2.2.1,G0 s106.2.2.2.2.2.2.2.2.2.2.2.1,G0 s106.2.2.2.2.2.2.2.2.2.2.2.2])]) (fun i106=>(l.take m5).length - i106) 0 ([],[],0,0,0,0,[],[],[],0,0,0,0) h ⟨(by repeat' constructor),⟨⟨_,rfl,.same⟩,⟨_,rfl,.same⟩,⟨_,rfl,.boxL rfl (by repeat' constructor)⟩,⟨_,rfl,.boxL rfl (by repeat' constructor)⟩,G⟩,rfl⟩ ?_
 clear h
 intro i106 s106 hi106 K106 e106
 refine Jr fun hK107=>(JLh (BL (decide ((i106:Int) < ((l.take m5).length:Int)))) (Jb O O O) O (G7 (hK107 (Js fun hK108=>Gm O (fun hb=>?_) (fun hb=>?_)))))
 ·
  have hk106:=Jk hb
  obtain⟨y106,nx106,hy106,hn106,h⟩:=Hq hi106 hk106
  replace h:=Ya hb106 h
  refine Gr (hK108 ?_)
  obtain⟨kj109,hkj109,h⟩:=Rm h
  refine Qr (fun j109:(List G4)=>kj109 j109=some r) (fun j109=>[(1,.sc (.int .u32 covers)),(4,.ptr 1055 0),(5,.ptr 1056 0),(16,Eb (l.take m5)),(17,G0 ((l.take m5).length:Int)),(18,Ej i106)]) (fun j109=>[(1059,.spare 110 12 j109.length j109.length),(1060,.spare 113 2 s106.2.1.length s106.2.1.length),(1055,.box 35 [E3 ([]:List G4),E8 ([]:List Ga),G0 0,G0 0,G0 0,G0 0,E5 ([]:List Row),E6 ([]:List Frame),E7 ([]:List Gk),G0 0,G0 0,G0 0,G0 0]),(1056,.box 35 [OW 1059 12 G4.av j109,OW 1060 2 Ga.av s106.2.1,G0 s106.2.2.1,G0 s106.2.2.2.1,G0 s106.2.2.2.2.1,G0 s106.2.2.2.2.2.1,E5 s106.2.2.2.2.2.2.1,E6 s106.2.2.2.2.2.2.2.1,E7 s106.2.2.2.2.2.2.2.2.1,G0 s106.2.2.2.2.2.2.2.2.2.1,G0 s106.2.2.2.2.2.2.2.2.2.2.1,G0 s106.2.2.2.2.2.2.2.2.2.2.2.1,G0 s106.2.2.2.2.2.2.2.2.2.2.2.2])]) (fun Kj109 ej109=>?_) ?_
  ·
   refine Gw (Jr fun hK110=>(JLh (.dptr (Gy.cs y106)) (Hb (f:=Gy.av) (xs:=(l.take m5)) (y:=y106) O O O Gf1 hy106 O) O (JLh (.agg (Gy.cs y106)) (Gh Q0d O O O) O (JLh (.ptr 1057 0) (Hu 1057 4 Jc0 O O) O (Hw (u:=.junk) (Hj (u:=.agg (Gy.cs y106)) (ds:=[U8 y106.Bay,U8 y106.Row,U8 y106.Tiers,BL y106.Deck]) Jd0 O O O O O O O O) (G7 (hK110 ?_)))))))
   refine Gt [(1,.sc (.int .u32 covers)),(4,.ptr 1055 0),(5,.ptr 1056 0),(7,.dptr (Gy.cs y106)),(16,Eb (l.take m5)),(17,G0 ((l.take m5).length:Int)),(18,Ej i106)] [(1059,.spare 110 12 s106.1.length s106.1.length),(1060,.spare 113 2 s106.2.1.length s106.2.1.length),(1055,.box 35 [E3 ([]:List G4),E8 ([]:List Ga),G0 0,G0 0,G0 0,G0 0,E5 ([]:List Row),E6 ([]:List Frame),E7 ([]:List Gk),G0 0,G0 0,G0 0,G0 0]),(1056,.box 35 [OW 1059 12 G4.av s106.1,OW 1060 2 Ga.av s106.2.1,G0 s106.2.2.1,G0 s106.2.2.2.1,G0 s106.2.2.2.2.1,G0 s106.2.2.2.2.2.1,E5 s106.2.2.2.2.2.2.1,E6 s106.2.2.2.2.2.2.2.1,E7 s106.2.2.2.2.2.2.2.2.1,G0 s106.2.2.2.2.2.2.2.2.2.1,G0 s106.2.2.2.2.2.2.2.2.2.2.1,G0 s106.2.2.2.2.2.2.2.2.2.2.2.1,G0 s106.2.2.2.2.2.2.2.2.2.2.2.2])] 1057 rfl rfl rfl ⟨⟨_,rfl,.same⟩,⟨_,rfl,.same⟩,⟨_,rfl,.boxEq rfl rfl⟩,⟨_,rfl,.boxEq rfl rfl⟩,G⟩ rfl (by repeat' (first | exact .ptr | constructor)) ?_
   refine Jr fun hK111=>(JLh (.dptr (Gy.cs y106)) (Gf J4e O O O) O (JLh (U8 y106.Bay) (Gj Ja O O O) O ?_))
   obtain⟨v112,hv112,h⟩:=Jp h
   refine JLh (G0 v112) (H66 Ga6 H0b hv112 O O) O ?_
   obtain⟨v113,hv113,h⟩:=Gd h
   refine JLh (G0 v113) (Jab (Yw hv113).1 (Yw hv113).2 O O O) O (JLh (.dptr ((Gy.cs y106).drop 1)) (Gf J4d O O O) O (JLh (U8 y106.Row) (Gj Ja O O O) O ?_))
   obtain⟨v114,hv114,h⟩:=Jp h
   refine JLh (G0 v114) (H66 Ga6 H0b hv114 O O) O ?_
   obtain⟨v115,hv115,h⟩:=Gd h
   refine JLh (G0 v115) (Jab (Yw hv115).1 (Yw hv115).2 O O O) O (JLh (.dptr [BL y106.Deck]) (Gf J4b O O O) O (JLh (BL y106.Deck) (Gj Qv O O O) O (JLh (.dptr [U8 y106.Tiers,BL y106.Deck]) (Gf J4c O O O) O (JLh (U8 y106.Tiers) (Gj Ja O O O) O ?_))))
   obtain⟨v116,hv116,h⟩:=Jp h
   refine JLh (G0 v116) (H66 Ga6 H0b hv116 O O) O ?_
   obtain⟨v117,hv117,h⟩:=Gd h
   refine JLh (G0 v117) (Jab (Yw hv117).1 (Yw hv117).2 O O O) O ?_
   obtain⟨v118,hv118,h⟩:=Jp h
   refine JLh (G0 v118) (Hx hv118 O O O) O (JLh (.agg [G0 v113,G0 v115,BL y106.Deck,G0 v118,G0 0,G0 500000000,G0 500000000,G0 0,E0 ([]:List Int),G0 0,G0 0,G0 0]) (Hz (cs:=[G0 v113,G0 v115,BL y106.Deck,G0 v118,G0 0,G0 500000000,G0 500000000,G0 0,E0 ([]:List Int),G0 0,G0 0,G0 0]) [(0,1),(1,1),(2,1),(3,1),(4,1),(5,1),(6,1),(7,1),(8,1),(9,1),(10,1),(11,1)] [G0 0,G0 0,BL false,G0 0,G0 0,G0 0,G0 0,G0 0,E0 ([]:List Int),G0 0,G0 0,G0 0] [.int .i64 0,.int .i64 0,.bool false,.int .i64 0,.int .i64 0,.int .i64 0,.int .i64 0,.int .i64 0,.slice none 0 0,.int .i64 0,.int .i64 0,.int .i64 0] G01 G36 ⟨.inl O,.inl O,.inl O,.inl O,.inl O,.inl O,.inl O,.inl O,.inr ⟨_,O,O⟩,.inl O,.inl O,.inl O,G⟩ O O) O (JLh (.ptr 1058 0) (Hu 1058 12 G17 O O) O (Hw (u:=.junk) (Hj (u:=.agg [G0 v113,G0 v115,BL y106.Deck,G0 v118,G0 0,G0 500000000,G0 500000000,G0 0,E0 ([]:List Int),G0 0,G0 0,G0 0]) (ds:=[G0 v113,G0 v115,BL y106.Deck,G0 v118,G0 0,G0 500000000,G0 500000000,G0 0,E0 ([]:List Int),G0 0,G0 0,G0 0]) Gf2 O O O O O O O O) (G7 (hK111 ?_)))))
   refine Jr fun hK119=>(JLh (.ptr 1058 0) (Qq G0c O O) O (JLh (G0 v113) (R9 Gb O O O O) O ?_))
   obtain⟨v120,hv120,h⟩:=Jp h
   refine JLh (G0 v120) (Jbc hv120 O O O) O ?_
   obtain⟨v121,hv121,h⟩:=Jp h
   refine JLh (G0 v121) (H3d hv121 O O O) O (JLh (.ptr 1058 1) (Qq G0b O O) O (JLh (G0 v115) (R9 Gb O O O O) O ?_))
   obtain⟨v122,hv122,h⟩:=Jp h
   refine JLh (G0 v122) (Jbc hv122 O O O) O ?_
   obtain⟨v123,hv123,h⟩:=Jp h
   refine JLh (G0 v123) (H3d hv123 O O O) O (JLh (.ptr 1058 9) (Qq H44 O O) O (Hw (u:=.junk) (Hj (u:=G0 v121) (ds:=[G0 v113,G0 v115,BL y106.Deck,G0 v118,G0 0,G0 500000000,G0 500000000,G0 0,E0 ([]:List Int),G0 v121,G0 0,G0 0]) G48 O O O O O O O O) (JLh (.ptr 1058 10) (Qq H34 O O) O (Hw (u:=.junk) (Hj (u:=G0 v123) (ds:=[G0 v113,G0 v115,BL y106.Deck,G0 v118,G0 0,G0 500000000,G0 500000000,G0 0,E0 ([]:List Int),G0 v121,G0 v123,G0 0]) G48 O O O O O O O O) (JLh (.ptr 1058 11) (Qq Gb5 O O) O (Hw (u:=.junk) (Hj (u:=G0 2000) (ds:=[G0 v113,G0 v115,BL y106.Deck,G0 v118,G0 0,G0 500000000,G0 500000000,G0 0,E0 ([]:List Int),G0 v121,G0 v123,G0 2000]) G48 O O O O O O O O) (G7 (hK119 ?_))))))))
   obtain⟨kj124,hkj124,h⟩:=Rm h
   refine Qr (fun j124:Int=>kj124 j124=some r) (fun j124=>[(1,.sc (.int .u32 covers)),(4,.ptr 1055 0),(5,.ptr 1056 0),(8,.ptr 1058 0),(16,Eb (l.take m5)),(17,G0 ((l.take m5).length:Int)),(18,Ej i106)]) (fun j124=>[(1059,.spare 110 12 s106.1.length s106.1.length),(1060,.spare 113 2 s106.2.1.length s106.2.1.length),(1055,.box 35 [E3 ([]:List G4),E8 ([]:List Ga),G0 0,G0 0,G0 0,G0 0,E5 ([]:List Row),E6 ([]:List Frame),E7 ([]:List Gk),G0 0,G0 0,G0 0,G0 0]),(1056,.box 35 [OW 1059 12 G4.av s106.1,OW 1060 2 Ga.av s106.2.1,G0 s106.2.2.1,G0 s106.2.2.2.1,G0 s106.2.2.2.2.1,G0 s106.2.2.2.2.2.1,E5 s106.2.2.2.2.2.2.1,E6 s106.2.2.2.2.2.2.2.1,E7 s106.2.2.2.2.2.2.2.2.1,G0 s106.2.2.2.2.2.2.2.2.2.1,G0 s106.2.2.2.2.2.2.2.2.2.2.1,G0 s106.2.2.2.2.2.2.2.2.2.2.2.1,G0 s106.2.2.2.2.2.2.2.2.2.2.2.2]),(1058,.box 110 [G0 v113,G0 v115,BL y106.Deck,G0 v118,G0 0,G0 500000000,G0 500000000,G0 0,E0 ([]:List Int),G0 v121,G0 v123,G0 j124])]) (fun Kj124 ej124=>?_) ?_
   ·
    refine Jr fun hK125=>(JLh (.ptr 1058 2) (Qq Yo O O) O (JLh (BL y106.Deck) (R9 Qv O O O O) O (G7 (hK125 (JCc O h (fun h hb=>?_) (fun h hb=>?_))))))
    ·
     refine G3 (JLh (.ptr 1058 11) (Qq Gb5 O O) O (Hw (u:=.junk) (Hj (u:=G0 20000) (ds:=[G0 v113,G0 v115,BL y106.Deck,G0 v118,G0 0,G0 500000000,G0 500000000,G0 0,E0 ([]:List Int),G0 v121,G0 v123,G0 20000]) G48 O O O O O O O O) (G7 (ej124 _ _ 20000 h ⟨(by repeat' constructor),⟨⟨_,rfl,.same⟩,⟨_,rfl,.same⟩,⟨_,rfl,.boxL rfl (by repeat' constructor)⟩,⟨_,rfl,.boxL rfl (by repeat' constructor)⟩,⟨_,rfl,.boxL rfl (by repeat' constructor)⟩,G⟩,rfl⟩))))
    ·
     refine Gr (ej124 _ _ 2000 h ⟨(by repeat' constructor),⟨⟨_,rfl,.same⟩,⟨_,rfl,.same⟩,⟨_,rfl,.boxL rfl (by repeat' constructor)⟩,⟨_,rfl,.boxL rfl (by repeat' constructor)⟩,⟨_,rfl,.boxL rfl (by repeat' constructor)⟩,G⟩,rfl⟩)
   ·intro j124 h
    replace h:=app1 hkj124 h
    refine Jr fun hK126=>(JLh (.agg [OW 1059 12 G4.av s106.1,OW 1060 2 Ga.av s106.2.1,G0 s106.2.2.1,G0 s106.2.2.2.1,G0 s106.2.2.2.2.1,G0 s106.2.2.2.2.2.1,E5 s106.2.2.2.2.2.2.1,E6 s106.2.2.2.2.2.2.2.1,E7 s106.2.2.2.2.2.2.2.2.1,G0 s106.2.2.2.2.2.2.2.2.2.1,G0 s106.2.2.2.2.2.2.2.2.2.2.1,G0 s106.2.2.2.2.2.2.2.2.2.2.2.1,G0 s106.2.2.2.2.2.2.2.2.2.2.2.2]) (G6f H5 O O O O) O (JLh (.ptr 1058 0) (Qq G0c O O) O (JLh (G0 v113) (R9 Gb O O O O) O (JLh (.ptr 1058 1) (Qq G0b O O) O (JLh (G0 v115) (R9 Gb O O O O) O (JLh (.ptr 1058 2) (Qq Yo O O) O (JLh (BL y106.Deck) (R9 Qv O O O O) O ?_)))))))
    obtain⟨r127,hr127,h⟩:=Gd h
    refine JLh (.tup [G0 r127.1,BL r127.2]) (Gu O (M_ship_Find_w (Gp.mk s106.1 s106.2.1 (Light.mk s106.2.2.1 s106.2.2.2.1 s106.2.2.2.2.1 s106.2.2.2.2.2.1) s106.2.2.2.2.2.2.1 s106.2.2.2.2.2.2.2.1 s106.2.2.2.2.2.2.2.2.1 (G2.mk s106.2.2.2.2.2.2.2.2.2.1 s106.2.2.2.2.2.2.2.2.2.2.1 s106.2.2.2.2.2.2.2.2.2.2.2.1 s106.2.2.2.2.2.2.2.2.2.2.2.2)) v113 v115 y106.Deck r127 hr127) Jfd ⟨O,O,O,O,O,O,O,O,G⟩) O (Yv (.tup [G0 r127.1,BL r127.2]) O (JLh (G0 r127.1) (Gn O O O) O (JLh (BL r127.2) (Gn O O O) O (Yv (G0 r127.1) O (Yv (BL r127.2) O (G7 (hK126 ?_)))))))
    refine Gt [(1,.sc (.int .u32 covers)),(4,.ptr 1055 0),(5,.ptr 1056 0),(8,.dptr [G0 v113,G0 v115,BL y106.Deck,G0 v118,G0 0,G0 500000000,G0 500000000,G0 0,E0 ([]:List Int),G0 v121,G0 v123,G0 j124]),(10,BL r127.2),(16,Eb (l.take m5)),(17,G0 ((l.take m5).length:Int)),(18,Ej i106)] [(1059,.spare 110 12 s106.1.length s106.1.length),(1060,.spare 113 2 s106.2.1.length s106.2.1.length),(1055,.box 35 [E3 ([]:List G4),E8 ([]:List Ga),G0 0,G0 0,G0 0,G0 0,E5 ([]:List Row),E6 ([]:List Frame),E7 ([]:List Gk),G0 0,G0 0,G0 0,G0 0]),(1056,.box 35 [OW 1059 12 G4.av s106.1,OW 1060 2 Ga.av s106.2.1,G0 s106.2.2.1,G0 s106.2.2.2.1,G0 s106.2.2.2.2.1,G0 s106.2.2.2.2.2.1,E5 s106.2.2.2.2.2.2.1,E6 s106.2.2.2.2.2.2.2.1,E7 s106.2.2.2.2.2.2.2.2.1,G0 s106.2.2.2.2.2.2.2.2.2.1,G0 s106.2.2.2.2.2.2.2.2.2.2.1,G0 s106.2.2.2.2.2.2.2.2.2.2.2.1,G0 s106.2.2.2.2.2.2.2.2.2.2.2.2])] 1058 rfl rfl rfl ⟨⟨_,rfl,.same⟩,⟨_,rfl,.same⟩,⟨_,rfl,.boxEq rfl rfl⟩,⟨_,rfl,.boxEq rfl rfl⟩,G⟩ rfl (by repeat' (first | exact .ptr | constructor)) ?_
    refine Jr fun hK128=>(Yv (BL r127.2) O (JLh (BL (!r127.2)) (Ru (b:=r127.2) O O) O (G7 (hK128 (JCc O h (fun h hb=>?_) (fun h hb=>?_))))))
    ·
     refine G3 (JLh (.ptr 1056 0) (Qq Jc O O) O (JLh (OW 1059 12 G4.av s106.1) (R9 Jv O O O O) O (JLh (.agg [G0 v113,G0 v115,BL y106.Deck,G0 v118,G0 0,G0 500000000,G0 500000000,G0 0,E0 ([]:List Int),G0 v121,G0 v123,G0 j124]) (Gh G3a O O O) O (JLh (E3 ([(G4.mk v113 v115 y106.Deck v118 0 500000000 500000000 0 [] v121 v123 j124)])) (H9 (xs:=[.agg [G0 v113,G0 v115,BL y106.Deck,G0 v118,G0 0,G0 500000000,G0 500000000,G0 0,E0 ([]:List Int),G0 v121,G0 v123,G0 j124]]) O ⟨O,O,G⟩ Ji G17 O O O O) O ?_))))
     obtain⟨ha129,h⟩:=J7 h
     refine JLh (OW 1059 12 G4.av (s106.1++[(G4.mk v113 v115 y106.Deck v118 0 500000000 500000000 0 [] v121 v123 j124)])) (Rc (f:=G4.av) (xs:=s106.1) (ys:=[(G4.mk v113 v115 y106.Deck v118 0 500000000 500000000 0 [] v121 v123 j124)]) O O O O Ji Jd1 ha129 (fun _=>O) (.inl O) O) O (JLh (.ptr 1056 0) (Qq Jc O O) O (Hw (u:=.junk) (Hj (u:=OW 1059 12 G4.av (s106.1++[(G4.mk v113 v115 y106.Deck v118 0 500000000 500000000 0 [] v121 v123 j124)])) (ds:=[OW 1059 12 G4.av (s106.1++[(G4.mk v113 v115 y106.Deck v118 0 500000000 500000000 0 [] v121 v123 j124)]),OW 1060 2 Ga.av s106.2.1,G0 s106.2.2.1,G0 s106.2.2.2.1,G0 s106.2.2.2.2.1,G0 s106.2.2.2.2.2.1,E5 s106.2.2.2.2.2.2.1,E6 s106.2.2.2.2.2.2.2.1,E7 s106.2.2.2.2.2.2.2.2.1,G0 s106.2.2.2.2.2.2.2.2.2.1,G0 s106.2.2.2.2.2.2.2.2.2.2.1,G0 s106.2.2.2.2.2.2.2.2.2.2.2.1,G0 s106.2.2.2.2.2.2.2.2.2.2.2.2]) J44 O O O O O O O O) (G7 ?_)))
     exact ej109 _ _ (s106.1++[(G4.mk v113 v115 y106.Deck v118 0 500000000 500000000 0 [] v121 v123 j124)]) h ⟨(by repeat' constructor),⟨⟨_,rfl,.same⟩,⟨_,rfl,.same⟩,⟨_,rfl,.boxL rfl (by repeat' constructor)⟩,⟨_,rfl,.boxL rfl (by repeat' constructor)⟩,G⟩,rfl⟩
    ·
     refine Gr (ej109 _ _ s106.1 h ⟨(by repeat' constructor),⟨⟨_,rfl,.same⟩,⟨_,rfl,.same⟩,⟨_,rfl,.boxL rfl (by repeat' constructor)⟩,⟨_,rfl,.boxL rfl (by repeat' constructor)⟩,G⟩,rfl⟩)
  ·intro j109 h
   replace h:=app1 hkj109 h
   refine G3 (JLh (G0 ((i106+1:Nat):Int)) (Hx (Ho hk106 hm17) O O O) O (Yv (G0 ((i106+1:Nat):Int)) O (G7 (e106 _ _ (i106+1) (j109,s106.2.1,s106.2.2.1,s106.2.2.2.1,s106.2.2.2.2.1,s106.2.2.2.2.2.1,s106.2.2.2.2.2.2.1,s106.2.2.2.2.2.2.2.1,s106.2.2.2.2.2.2.2.2.1,s106.2.2.2.2.2.2.2.2.2.1,s106.2.2.2.2.2.2.2.2.2.2.1,s106.2.2.2.2.2.2.2.2.2.2.2.1,s106.2.2.2.2.2.2.2.2.2.2.2.2) (app1 hn106 h) (by omega) ⟨(by repeat' constructor),⟨⟨_,rfl,.same⟩,⟨_,rfl,.same⟩,⟨_,rfl,.boxL rfl (by repeat' constructor)⟩,⟨_,rfl,.boxL rfl (by repeat' constructor)⟩,G⟩,rfl⟩))))
 ·
  have h:=app1 hkx106 (Hr hi106 (Hc hb))
  refine Ht (hK3 ?_)
  obtain⟨kj130,hkj130,h⟩:=Rm h
  refine Qr (fun j130:(List G4)=>kj130 j130=some r) (fun j130=>[(1,.sc (.int .u32 covers)),(4,.ptr 1055 0),(5,.ptr 1056 0)]) (fun j130=>[(1060,.spare 113 2 s106.2.1.length s106.2.1.length),(1055,.box 35 [E3 ([]:List G4),E8 ([]:List Ga),G0 0,G0 0,G0 0,G0 0,E5 ([]:List Row),E6 ([]:List Frame),E7 ([]:List Gk),G0 0,G0 0,G0 0,G0 0]),(1056,.box 35 [E3 j130,OW 1060 2 Ga.av s106.2.1,G0 s106.2.2.1,G0 s106.2.2.2.1,G0 s106.2.2.2.2.1,G0 s106.2.2.2.2.2.1,E5 s106.2.2.2.2.2.2.1,E6 s106.2.2.2.2.2.2.2.1,E7 s106.2.2.2.2.2.2.2.2.1,G0 s106.2.2.2.2.2.2.2.2.2.1,G0 s106.2.2.2.2.2.2.2.2.2.2.1,G0 s106.2.2.2.2.2.2.2.2.2.2.2.1,G0 s106.2.2.2.2.2.2.2.2.2.2.2.2])]) (fun Kj130 ej130=>?_) ?_
  ·
   refine Jr fun hK131=>(JLh (.ptr 1056 0) (Qq Jc O O) O (JLh (OW 1059 12 G4.av s106.1) (R9 Jv O O O O) O (JLl Ji O O O fun hm74=>(JLh (BL (decide ((s106.1.length:Int)=0))) (Q0 O O O) O (G7 (hK131 (JCc O h (fun h hb=>?_) (fun h hb=>?_))))))))
   ·
    refine G3 ?_
    refine JLh (.agg [G0 0,G0 0,BL false,G0 3,G0 0,G0 500000000,G0 500000000,G0 0,E0 ([]:List Int),G0 0,G0 0,G0 2000]) (Hz (cs:=[G0 0,G0 0,BL false,G0 3,G0 0,G0 500000000,G0 500000000,G0 0,E0 ([]:List Int),G0 0,G0 0,G0 2000]) [(0,1),(1,1),(2,1),(3,1),(4,1),(5,1),(6,1),(7,1),(8,1),(9,1),(10,1),(11,1)] [G0 0,G0 0,BL false,G0 0,G0 0,G0 0,G0 0,G0 0,E0 ([]:List Int),G0 0,G0 0,G0 0] [.int .i64 0,.int .i64 0,.bool false,.int .i64 0,.int .i64 0,.int .i64 0,.int .i64 0,.int .i64 0,.slice none 0 0,.int .i64 0,.int .i64 0,.int .i64 0] G01 G36 ⟨.inl O,.inl O,.inl O,.inl O,.inl O,.inl O,.inl O,.inl O,.inr ⟨_,O,O⟩,.inl O,.inl O,.inl O,G⟩ O O) O (JLh (E3 ([(G4.mk 0 0 false 3 0 500000000 500000000 0 [] 0 0 2000)])) (H9 (xs:=[.agg [G0 0,G0 0,BL false,G0 3,G0 0,G0 500000000,G0 500000000,G0 0,E0 ([]:List Int),G0 0,G0 0,G0 2000]]) O ⟨O,O,G⟩ Ji G17 O O O O) O (JLh (.ptr 1056 0) (Qq Jc O O) O (Hw (u:=.junk) (Hj (u:=E3 ([(G4.mk 0 0 false 3 0 500000000 500000000 0 [] 0 0 2000)])) (ds:=[E3 ([(G4.mk 0 0 false 3 0 500000000 500000000 0 [] 0 0 2000)]),OW 1060 2 Ga.av s106.2.1,G0 s106.2.2.1,G0 s106.2.2.2.1,G0 s106.2.2.2.2.1,G0 s106.2.2.2.2.2.1,E5 s106.2.2.2.2.2.2.1,E6 s106.2.2.2.2.2.2.2.1,E7 s106.2.2.2.2.2.2.2.2.1,G0 s106.2.2.2.2.2.2.2.2.2.1,G0 s106.2.2.2.2.2.2.2.2.2.2.1,G0 s106.2.2.2.2.2.2.2.2.2.2.2.1,G0 s106.2.2.2.2.2.2.2.2.2.2.2.2]) J44 O O O O O O O O) (G7 ?_))))
    exact ej130 _ _ ([(G4.mk 0 0 false 3 0 500000000 500000000 0 [] 0 0 2000)]) h ⟨⟨.same rfl,.same rfl,.same rfl,G⟩,⟨⟨_,rfl,.same⟩,⟨_,rfl,.boxL rfl (by repeat' constructor)⟩,⟨_,rfl,.boxL rfl (by repeat' constructor)⟩,G⟩,rfl⟩
   ·
    refine Gr (ej130 _ _ s106.1 h ⟨⟨.same rfl,.same rfl,.same rfl,G⟩,⟨⟨_,rfl,.same⟩,⟨_,rfl,.boxL rfl (by repeat' constructor)⟩,⟨_,rfl,.boxL rfl ⟨.list rfl,.same rfl,.same rfl,.same rfl,.same rfl,.same rfl,.same rfl,.same rfl,.same rfl,.same rfl,.same rfl,.same rfl,.same rfl,G⟩⟩,G⟩,rfl⟩)
  ·intro j130 h
   replace h:=app1 hkj130 h
   refine Js fun hK132=>Jr fun hK133=>(Yv (G0 0) O (G7 (hK133 (Gw ?_))))
   obtain⟨hx200,h⟩:=J7 h
   obtain⟨b200,kx200,hb200,hkx200,h⟩:=J33 h
   refine Hp (fun i200 (s200:(List G4)×(List Ga)×Int×Int×Int×Int×(List Row)×(List Frame)×(List Gk)×Int×Int×Int×Int)=>upto b200 kx200 ((5:Int).toNat - i200) i200 s200=some r) (fun i200 s200=>[(1,.sc (.int .u32 covers)),(4,.ptr 1055 0),(5,.ptr 1056 0),(11,Ej i200)]) (fun i200 s200=>[(1060,.spare 113 2 s200.2.1.length s200.2.1.length),(1055,.box 35 [E3 ([]:List G4),E8 ([]:List Ga),G0 0,G0 0,G0 0,G0 0,E5 ([]:List Row),E6 ([]:List Frame),E7 ([]:List Gk),G0 0,G0 0,G0 0,G0 0]),(1056,.box 35 [E3 s200.1,OW 1060 2 Ga.av s200.2.1,G0 s200.2.2.1,G0 s200.2.2.2.1,G0 s200.2.2.2.2.1,G0 s200.2.2.2.2.2.1,E5 s200.2.2.2.2.2.2.1,E6 s200.2.2.2.2.2.2.2.1,E7 s200.2.2.2.2.2.2.2.2.1,G0 s200.2.2.2.2.2.2.2.2.2.1,G0 s200.2.2.2.2.2.2.2.2.2.2.1,G0 s200.2.2.2.2.2.2.2.2.2.2.2.1,G0 s200.2.2.2.2.2.2.2.2.2.2.2.2])]) (fun i200=>(5:Int).toNat - i200) 0 (j130,s106.2.1,s106.2.2.1,s106.2.2.2.1,s106.2.2.2.2.1,s106.2.2.2.2.2.1,s106.2.2.2.2.2.2.1,s106.2.2.2.2.2.2.2.1,s106.2.2.2.2.2.2.2.2.1,s106.2.2.2.2.2.2.2.2.2.1,s106.2.2.2.2.2.2.2.2.2.2.1,s106.2.2.2.2.2.2.2.2.2.2.2.1,s106.2.2.2.2.2.2.2.2.2.2.2.2) h ⟨(by repeat' constructor),⟨⟨_,rfl,.same⟩,⟨_,rfl,.boxL rfl (by repeat' constructor)⟩,⟨_,rfl,.boxL rfl (by repeat' constructor)⟩,G⟩,rfl⟩ ?_
   clear h
   intro i200 s200 hi200 K200 e200
   refine Js fun hK201=>Jr fun hK202=>(Yv (Ej i200) O (JLh (BL (decide ((i200:Int) < 5))) (Jb O O O) O (G7 (hK202 (Gm O (fun hb=>?_) (fun hb=>?_))))))
   ·
    have hk200:=Hc9 hb
    obtain⟨nx200,hn200,h⟩:=Hb8 hi200 hk200
    replace h:=app3 hb200 h
    refine Gr (hK201 ?_)
    obtain⟨kj203,hkj203,h⟩:=Rm h
    refine Qr (fun j203:(List Ga)=>kj203 j203=some r) (fun j203=>[(1,.sc (.int .u32 covers)),(4,.ptr 1055 0),(5,.ptr 1056 0),(11,Ej i200)]) (fun j203=>[(1060,.spare 113 2 j203.length j203.length),(1055,.box 35 [E3 ([]:List G4),E8 ([]:List Ga),G0 0,G0 0,G0 0,G0 0,E5 ([]:List Row),E6 ([]:List Frame),E7 ([]:List Gk),G0 0,G0 0,G0 0,G0 0]),(1056,.box 35 [E3 s200.1,OW 1060 2 Ga.av j203,G0 s200.2.2.1,G0 s200.2.2.2.1,G0 s200.2.2.2.2.1,G0 s200.2.2.2.2.2.1,E5 s200.2.2.2.2.2.2.1,E6 s200.2.2.2.2.2.2.2.1,E7 s200.2.2.2.2.2.2.2.2.1,G0 s200.2.2.2.2.2.2.2.2.2.1,G0 s200.2.2.2.2.2.2.2.2.2.2.1,G0 s200.2.2.2.2.2.2.2.2.2.2.2.1,G0 s200.2.2.2.2.2.2.2.2.2.2.2.2])]) (fun Kj203 ej203=>?_) ?_
    ·
     refine Gw ?_
     obtain⟨kj204,hkj204,h⟩:=Rm h
     refine Qr (fun j204:(List Ga)=>kj204 j204=some r) (fun j204=>[(1,.sc (.int .u32 covers)),(4,.ptr 1055 0),(5,.ptr 1056 0),(11,Ej i200)]) (fun j204=>[(1060,.spare 113 2 j204.length j204.length),(1055,.box 35 [E3 ([]:List G4),E8 ([]:List Ga),G0 0,G0 0,G0 0,G0 0,E5 ([]:List Row),E6 ([]:List Frame),E7 ([]:List Gk),G0 0,G0 0,G0 0,G0 0]),(1056,.box 35 [E3 s200.1,OW 1060 2 Ga.av j204,G0 s200.2.2.1,G0 s200.2.2.2.1,G0 s200.2.2.2.2.1,G0 s200.2.2.2.2.2.1,E5 s200.2.2.2.2.2.2.1,E6 s200.2.2.2.2.2.2.2.1,E7 s200.2.2.2.2.2.2.2.2.1,G0 s200.2.2.2.2.2.2.2.2.2.1,G0 s200.2.2.2.2.2.2.2.2.2.2.1,G0 s200.2.2.2.2.2.2.2.2.2.2.2.1,G0 s200.2.2.2.2.2.2.2.2.2.2.2.2])]) (fun Kj204 ej204=>?_) ?_
     ·
      refine Jr fun hK205=>(Yv (.sc (.int .u32 covers)) O (Yv (Ej i200) O ?_))
      obtain⟨v206,hv206,h⟩:=Jp h
      refine JLh (G0 v206) (Jbc hv206 O O O) O ?_
      obtain⟨m207,hm207,h⟩:=Gd h
      refine JLh (.sc (.int .u32 (Hf0 .u32 covers m207))) (Q13 (s:=m207) (H0f hm207).1 O O O) O (JLh (.sc (.int .u32 (band .u32 (Hf0 .u32 covers m207) 1))) (A_band O O O) O (JLh (BL (decide ((band .u32 (Hf0 .u32 covers m207) 1)=1))) (Q0 O O O) O (G7 (hK205 (JCc O h (fun h hb=>?_) (fun h hb=>?_))))))
      ·
       refine G3 (JLh (.ptr 1056 1) (Qq R3 O O) O (JLh (OW 1060 2 Ga.av s200.2.1) (R9 Yi O O O O) O (Yv (Ej i200) O (JLh (E0 [0,1]) (H9 (xs:=[G0 0,G0 1]) O ⟨O,O,O,O,G⟩ Gq Q1 O O O O) O (JLh (.agg [Ej i200,E0 [0,1]]) (Hz (cs:=[Ej i200,E0 [0,1]]) [(0,1),(1,1)] [G0 0,E0 ([]:List Int)] [.int .i64 0,.slice none 0 0] H02 H42 ⟨.inl O,.inr ⟨_,O,O⟩,G⟩ O O) O (JLh (E8 ([(Ga.mk (i200:Int) [0,1])])) (H9 (xs:=[.agg [Ej i200,E0 [0,1]]]) O ⟨O,O,G⟩ R0 G7e O O O O) O ?_))))))
       obtain⟨ha208,h⟩:=J7 h
       refine JLh (OW 1060 2 Ga.av (s200.2.1++[(Ga.mk (i200:Int) [0,1])])) (Rc (f:=Ga.av) (xs:=s200.2.1) (ys:=[(Ga.mk (i200:Int) [0,1])]) O O O O R0 J0d ha208 (fun _=>O) (.inl O) O) O (JLh (.ptr 1056 1) (Qq R3 O O) O (Hw (u:=.junk) (Hj (u:=OW 1060 2 Ga.av (s200.2.1++[(Ga.mk (i200:Int) [0,1])])) (ds:=[E3 s200.1,OW 1060 2 Ga.av (s200.2.1++[(Ga.mk (i200:Int) [0,1])]),G0 s200.2.2.1,G0 s200.2.2.2.1,G0 s200.2.2.2.2.1,G0 s200.2.2.2.2.2.1,E5 s200.2.2.2.2.2.2.1,E6 s200.2.2.2.2.2.2.2.1,E7 s200.2.2.2.2.2.2.2.2.1,G0 s200.2.2.2.2.2.2.2.2.2.1,G0 s200.2.2.2.2.2.2.2.2.2.2.1,G0 s200.2.2.2.2.2.2.2.2.2.2.2.1,G0 s200.2.2.2.2.2.2.2.2.2.2.2.2]) J43 O O O O O O O O) (G7 ?_)))
       exact ej204 _ _ (s200.2.1++[(Ga.mk (i200:Int) [0,1])]) h ⟨(by repeat' constructor),⟨⟨_,rfl,.same⟩,⟨_,rfl,.boxL rfl (by repeat' constructor)⟩,⟨_,rfl,.boxL rfl (by repeat' constructor)⟩,G⟩,rfl⟩
      ·
       refine Gr (ej204 _ _ s200.2.1 h ⟨(by repeat' constructor),⟨⟨_,rfl,.same⟩,⟨_,rfl,.boxL rfl (by repeat' constructor)⟩,⟨_,rfl,.boxL rfl (by repeat' constructor)⟩,G⟩,rfl⟩)
     ·intro j204 h
      replace h:=app1 hkj204 h
      refine Jr fun hK209=>(Yv (.sc (.int .u32 covers)) O (Yv (Ej i200) O ?_))
      obtain⟨v210,hv210,h⟩:=Jp h
      refine JLh (G0 v210) (Jbc hv210 O O O) O ?_
      obtain⟨v211,hv211,h⟩:=Jp h
      refine JLh (G0 v211) (Hx hv211 O O O) O ?_
      obtain⟨m212,hm212,h⟩:=Gd h
      refine JLh (.sc (.int .u32 (Hf0 .u32 covers m212))) (Q13 (s:=m212) (H0f hm212).1 O O O) O (JLh (.sc (.int .u32 (band .u32 (Hf0 .u32 covers m212) 1))) (A_band O O O) O (JLh (BL (decide ((band .u32 (Hf0 .u32 covers m212) 1)=1))) (Q0 O O O) O (G7 (hK209 (JCc O h (fun h hb=>?_) (fun h hb=>?_))))))
      ·
       refine G3 (JLh (.ptr 1056 1) (Qq R3 O O) O (JLh (OW 1060 2 Ga.av j204) (R9 Yi O O O O) O (Yv (Ej i200) O (JLh (E0 [2,3,4]) (H9 (xs:=[G0 2,G0 3,G0 4]) O ⟨O,O,O,O,O,O,G⟩ Gq Q1 O O O O) O (JLh (.agg [Ej i200,E0 [2,3,4]]) (Hz (cs:=[Ej i200,E0 [2,3,4]]) [(0,1),(1,1)] [G0 0,E0 ([]:List Int)] [.int .i64 0,.slice none 0 0] H02 H42 ⟨.inl O,.inr ⟨_,O,O⟩,G⟩ O O) O (JLh (E8 ([(Ga.mk (i200:Int) [2,3,4])])) (H9 (xs:=[.agg [Ej i200,E0 [2,3,4]]]) O ⟨O,O,G⟩ R0 G7e O O O O) O ?_))))))
       obtain⟨ha213,h⟩:=J7 h
       refine JLh (OW 1060 2 Ga.av (j204++[(Ga.mk (i200:Int) [2,3,4])])) (Rc (f:=Ga.av) (xs:=j204) (ys:=[(Ga.mk (i200:Int) [2,3,4])]) O O O O R0 J0d ha213 (fun _=>O) (.inl O) O) O (JLh (.ptr 1056 1) (Qq R3 O O) O (Hw (u:=.junk) (Hj (u:=OW 1060 2 Ga.av (j204++[(Ga.mk (i200:Int) [2,3,4])])) (ds:=[E3 s200.1,OW 1060 2 Ga.av (j204++[(Ga.mk (i200:Int) [2,3,4])]),G0 s200.2.2.1,G0 s200.2.2.2.1,G0 s200.2.2.2.2.1,G0 s200.2.2.2.2.2.1,E5 s200.2.2.2.2.2.2.1,E6 s200.2.2.2.2.2.2.2.1,E7 s200.2.2.2.2.2.2.2.2.1,G0 s200.2.2.2.2.2.2.2.2.2.1,G0 s200.2.2.2.2.2.2.2.2.2.2.1,G0 s200.2.2.2.2.2.2.2.2.2.2.2.1,G0 s200.2.2.2.2.2.2.2.2.2.2.2.2]) J43 O O O O O O O O) (G7 ?_)))
       exact ej203 _ _ (j204++[(Ga.mk (i200:Int) [2,3,4])]) h ⟨(by repeat' constructor),⟨⟨_,rfl,.same⟩,⟨_,rfl,.boxL rfl (by repeat' constructor)⟩,⟨_,rfl,.boxL rfl (by repeat' constructor)⟩,G⟩,rfl⟩
      ·
       refine Gr (ej203 _ _ j204 h ⟨(by repeat' constructor),⟨⟨_,rfl,.same⟩,⟨_,rfl,.boxL rfl (by repeat' constructor)⟩,⟨_,rfl,.boxL rfl (by repeat' constructor)⟩,G⟩,rfl⟩)
    ·intro j203 h
     replace h:=app1 hkj203 h
     refine G3 (Yv (Ej i200) O (JLh (G0 ((i200+1:Nat):Int)) (Hx (Ho hk200 (H67 hx200)) O O O) O (Yv (G0 ((i200+1:Nat):Int)) O (G7 (e200 _ _ (i200+1) (s200.1,j203,s200.2.2.1,s200.2.2.2.1,s200.2.2.2.2.1,s200.2.2.2.2.2.1,s200.2.2.2.2.2.2.1,s200.2.2.2.2.2.2.2.1,s200.2.2.2.2.2.2.2.2.1,s200.2.2.2.2.2.2.2.2.2.1,s200.2.2.2.2.2.2.2.2.2.2.1,s200.2.2.2.2.2.2.2.2.2.2.2.1,s200.2.2.2.2.2.2.2.2.2.2.2.2) (app1 hn200 h) (by omega) ⟨(by repeat' constructor),⟨⟨_,rfl,.same⟩,⟨_,rfl,.boxL rfl (by repeat' constructor)⟩,⟨_,rfl,.boxL rfl (by repeat' constructor)⟩,G⟩,rfl⟩)))))
   ·
    have h:=app1 hkx200 (Hb9 hi200 (Gc0 hb))
    refine Ht (hK132 ?_)
    refine Jr fun hK214=>(JLh (.agg [E3 s200.1,OW 1060 2 Ga.av s200.2.1,G0 s200.2.2.1,G0 s200.2.2.2.1,G0 s200.2.2.2.2.1,G0 s200.2.2.2.2.2.1,E5 s200.2.2.2.2.2.2.1,E6 s200.2.2.2.2.2.2.2.1,E7 s200.2.2.2.2.2.2.2.2.1,G0 s200.2.2.2.2.2.2.2.2.2.1,G0 s200.2.2.2.2.2.2.2.2.2.2.1,G0 s200.2.2.2.2.2.2.2.2.2.2.2.1,G0 s200.2.2.2.2.2.2.2.2.2.2.2.2]) (G6f H5 O O O O) O (Hw (u:=.junk) (Hj (u:=.agg [E3 s200.1,OW 1060 2 Ga.av s200.2.1,G0 s200.2.2.1,G0 s200.2.2.2.1,G0 s200.2.2.2.2.1,G0 s200.2.2.2.2.2.1,E5 s200.2.2.2.2.2.2.1,E6 s200.2.2.2.2.2.2.2.1,E7 s200.2.2.2.2.2.2.2.2.1,G0 s200.2.2.2.2.2.2.2.2.2.1,G0 s200.2.2.2.2.2.2.2.2.2.2.1,G0 s200.2.2.2.2.2.2.2.2.2.2.2.1,G0 s200.2.2.2.2.2.2.2.2.2.2.2.2]) (ds:=[E3 s200.1,OW 1060 2 Ga.av s200.2.1,G0 s200.2.2.1,G0 s200.2.2.2.1,G0 s200.2.2.2.2.1,G0 s200.2.2.2.2.2.1,E5 s200.2.2.2.2.2.2.1,E6 s200.2.2.2.2.2.2.2.1,E7 s200.2.2.2.2.2.2.2.2.1,G0 s200.2.2.2.2.2.2.2.2.2.1,G0 s200.2.2.2.2.2.2.2.2.2.2.1,G0 s200.2.2.2.2.2.2.2.2.2.2.2.1,G0 s200.2.2.2.2.2.2.2.2.2.2.2.2]) Z1 O O O O O O O O) (G7 (hK214 ?_))))
    refine Gx (⟨[.agg [E3 s200.1,E8 s200.2.1,G0 s200.2.2.1,G0 s200.2.2.2.1,G0 s200.2.2.2.2.1,G0 s200.2.2.2.2.2.1,E5 s200.2.2.2.2.2.2.1,E6 s200.2.2.2.2.2.2.2.1,E7 s200.2.2.2.2.2.2.2.2.1,G0 s200.2.2.2.2.2.2.2.2.2.1,G0 s200.2.2.2.2.2.2.2.2.2.2.1,G0 s200.2.2.2.2.2.2.2.2.2.2.2.1,G0 s200.2.2.2.2.2.2.2.2.2.2.2.2]],[],G,O,⟨⟨_,⟨_,_,_,_,O,O,O,.inl ⟨H5,O⟩⟩,.agg ⟨.same O,.list O,.same O,.same O,.same O,.same O,.same O,.same O,.same O,.same O,.same O,.same O,.same O,G⟩⟩,G⟩,O,congrArg (fun r:Gp=>(.agg (Gp.cs r):AV)) (Option.some.inj h)⟩)

def Ro (s:Gp) (l:List Gi) (most:Int):Option ((List G9)×(List Stowed)):=
 bnd (Hc6 (min (l.length:Int) most) l.length) fun m6=>
 each (fun y7 i7 (s7:(List Stowed)×(List G9)) nx7=>
  jp (fun kj10=>
   G0d (5*((i7+1:Nat):Int)) fun v13=>
   G0d (y7.Kilos) fun v14=>
   G0d (100*v14) fun v15=>
   G0d (1000+v15) fun v16=>
   jp (fun kj17=>
    bif y7.Small then
    (kj17 (20,false))
    else
    (kj17 (40,y7.High))) fun(j17:Int×Bool)=>
   need (decide ((s7.2.length+[(G9.mk v13 ByteArray.empty j17.1 j17.2 v16 0 1 0 false)].length)*64≤140737488355328∧s7.2.length+[(G9.mk v13 ByteArray.empty j17.1 j17.2 v16 0 1 0 false)].length≤maxLen)) <|
   bnd (G1f s j17.1) fun r22=>
   each (fun y49 i49 (s49:(List Stowed)) nx49=>
    need (decide ((([]:List Stowed).length+s49.length)*32≤140737488355328∧([]:List Stowed).length+s49.length≤maxLen)) <|
    need (decide (((([]:List Stowed)++s49).length+[(Stowed.mk v13 y49)].length)*32≤140737488355328∧(([]:List Stowed)++s49).length+[(Stowed.mk v13 y49)].length≤maxLen)) <|
    G0d (y7.G4) fun v58=>
    bnd (H87 v58 (s.Columns.length:Int)) fun v59=>
    bnd (bif decide (y49.G4=v59) then Q2 s (s7.2++[(G9.mk v13 ByteArray.empty j17.1 j17.2 v16 0 1 0 false)]) ((([]:List Stowed)++s49)++[(Stowed.mk v13 y49)]) else some default) fun r60=>
    bif ((decide (y49.G4=v59))&&r60) then
    (kj10 (((([]:List Stowed)++s49)++[(Stowed.mk v13 y49)]),(s7.2++[(G9.mk v13 ByteArray.empty j17.1 j17.2 v16 0 1 0 false)])))
    else
    (nx49 s49))
   (fun(s49:(List Stowed))=>
    kj10 (s49,(s7.2++[(G9.mk v13 ByteArray.empty j17.1 j17.2 v16 0 1 0 false)]))) r22 0 s7.1) fun(j10:(List Stowed)×(List G9))=>
  nx7 (j10.1,j10.2))
 (fun(s7:(List Stowed)×(List G9))=>
  some (s7.2,s7.1)) (l.take m6) 0 ([],[])
theorem G55 (s:Gp) (l:List Gi) (most:Int) (r:(List G9)×(List Stowed)) (h:Ro s l most=some r):Qx Ek 22 [.agg (Gp.cs s),E9 l,G0 most] [] (fun av L'=>∃ p:Nat,av=.tup [.vec 1063 p 9 r.1.length,E1 r.2]∧L'=[(1063,.vec 61 9 p (r.1.map G9.av))]):=by
 unfold Ro at h
 refine G21 [] [.tmp 6,.tmp 7] Tryz.func22 O O (Hcd O) (Jr fun hK1=>(JLh (.ptr 1061 0) (Jn (cs:=(Gp.cs s)) 1061 O O O O O) O (JLh (.vec 1062 (([]:List G9).length) 9 (([]:List G9).length)) (Haf 1062 61 9 O O O) O (JLh (E1 ([]:List Stowed)) (Hf 4 O O) O (G7 (hK1 ?_))))))
 refine Gt [(1,E9 l),(2,G0 most),(3,Ec s)] [(1062,.vec 61 9 (([]:List G9).length) (([]:List G9).map G9.av))] 1061 rfl rfl rfl ⟨⟨_,rfl,.vec⟩,G⟩ rfl (by exact⟨.conv (.same rfl),.conv (.same rfl),.ptr,G⟩) (Jr fun hK2=>(JLh (.vec 1063 (([]:List G9).length) 9 (([]:List G9).length)) (Haf 1063 61 9 O O O) O (G7 (hK2 (Jr fun hK3=>(JLh (E1 ([]:List Stowed)) (Hf 4 O O) O (G7 (hK3 (Js fun hK4=>?_)))))))))
 refine Jr fun hK5=>(Yv (E9 l) O (Yv (E9 l) O (JLl Gf0 O O O fun hm18=>(Yv (G0 most) O (JLh (G0 (min (l.length:Int) most)) (A_min O O O) O ?_)))))
 obtain⟨m6,hm6,h⟩:=Gd h
 refine JLh (E9 (l.take m6)) (Hb0 (f:=Gi.av) (xs:=l) O O O Gf0 (H0f hm6)) O (JLl Gf0 O O O fun hm22=>(Yv (G0 0) O (G7 (hK5 (Gw ?_)))))
 obtain⟨b7,kx7,hb7,hkx7,h⟩:=J0 h
 refine Hp (fun i7 (s7:(List Stowed)×(List G9))=>each b7 kx7 (List.drop i7 (l.take m6)) i7 s7=some r) (fun i7 s7=>[(3,Ec s),(8,.vec 1063 s7.2.length 9 s7.2.length),(9,E1 s7.1),(21,E9 (l.take m6)),(22,G0 ((l.take m6).length:Int)),(23,Ej i7)]) (fun i7 s7=>[(1062,.vec 61 9 (([]:List G9).length) (([]:List G9).map G9.av)),(1063,.vec 61 9 s7.2.length (s7.2.map G9.av))]) (fun i7=>(l.take m6).length - i7) 0 ([],[]) h ⟨(by repeat' constructor),⟨⟨_,rfl,.vec⟩,⟨_,rfl,.vec⟩,G⟩,rfl⟩ ?_
 clear h
 intro i7 s7 hi7 K7 e7
 refine Jr fun hK8=>(JLh (BL (decide ((i7:Int) < ((l.take m6).length:Int)))) (Jb O O O) O (G7 (hK8 (Js fun hK9=>Gm O (fun hb=>?_) (fun hb=>?_)))))
 ·
  have hk7:=Jk hb
  obtain⟨y7,nx7,hy7,hn7,h⟩:=Hq hi7 hk7
  replace h:=Ya hb7 h
  refine Gr (hK9 ?_)
  obtain⟨kj10,hkj10,h⟩:=Rm h
  refine Qr (fun j10:(List Stowed)×(List G9)=>kj10 j10=some r) (fun j10=>[(3,Ec s),(8,.vec 1063 j10.2.length 9 j10.2.length),(9,E1 j10.1),(21,E9 (l.take m6)),(22,G0 ((l.take m6).length:Int)),(23,Ej i7)]) (fun j10=>[(1062,.vec 61 9 (([]:List G9).length) (([]:List G9).map G9.av)),(1063,.vec 61 9 j10.2.length (j10.2.map G9.av))]) (fun Kj10 ej10=>?_) ?_
  ·
   refine Gw (Jr fun hK11=>(Yv (Ej i7) O (JLh (Ei y7) (Hb (f:=Gi.av) (xs:=(l.take m6)) (y:=y7) O O O Gf0 hy7 O) O (JLh (.agg (Gi.cs y7)) (Gh tf_agg_59 O O O) O (JLh (.ptr 1064 0) (Hu 1064 4 Jcb O O) O (Yv (Ej i7) O (Hw (u:=.junk) (Hj (u:=.agg (Gi.cs y7)) (ds:=[U8 y7.G4,U8 y7.Kilos,BL y7.Small,BL y7.High]) Jeb O O O O O O O O) (G7 (hK11 ?_)))))))))
   refine Gt [(3,Ec s),(8,.vec 1063 s7.2.length 9 s7.2.length),(9,E1 s7.1),(10,Ej i7),(11,Ei y7),(21,E9 (l.take m6)),(22,G0 ((l.take m6).length:Int)),(23,Ej i7)] [(1062,.vec 61 9 (([]:List G9).length) (([]:List G9).map G9.av)),(1063,.vec 61 9 s7.2.length (s7.2.map G9.av))] 1064 rfl rfl rfl ⟨⟨_,rfl,.vec⟩,⟨_,rfl,.vec⟩,G⟩ rfl (by repeat' (first | exact .ptr | constructor)) (Jr fun hK12=>(Yv (Ej i7) O (JLh (G0 ((i7+1:Nat):Int)) (Hx (Ho hk7 hm22) O O O) O ?_)))
   obtain⟨v13,hv13,h⟩:=Jp h
   refine JLh (G0 v13) (Jbc hv13 O O O) O (JLh (.dptr [BL y7.High]) (Gf Jb6 O O O) O (JLh (BL y7.High) (Gj Qv O O O) O (JLh (.dptr [U8 y7.Kilos,BL y7.Small,BL y7.High]) (Gf H85 O O O) O (JLh (U8 y7.Kilos) (Gj Ja O O O) O ?_))))
   obtain⟨v14,hv14,h⟩:=Jp h
   refine JLh (G0 v14) (H66 Ga6 H0b hv14 O O) O ?_
   obtain⟨v15,hv15,h⟩:=Jp h
   refine JLh (G0 v15) (Jbc hv15 O O O) O ?_
   obtain⟨v16,hv16,h⟩:=Jp h
   refine JLh (G0 v16) (Hx hv16 O O O) O (JLh (.agg [G0 v13,ST ByteArray.empty,U8 40,BL y7.High,G0 v16,G0 0,G0 1,U8 0,BL false]) (Hz (cs:=[G0 v13,ST ByteArray.empty,U8 40,BL y7.High,G0 v16,G0 0,G0 1,U8 0,BL false]) [(0,1),(1,1),(2,1),(3,1),(4,1),(5,1),(6,1),(7,1),(8,1)] [G0 0,ST ByteArray.empty,U8 0,BL false,G0 0,G0 0,G0 0,U8 0,BL false] [.int .i64 0,.string ByteArray.empty,.int .u8 0,.bool false,.int .i64 0,.int .i64 0,.int .i64 0,.int .u8 0,.bool false] Rx Z0 ⟨.inl O,.inl O,.inl O,.inl O,.inl O,.inl O,.inl O,.inl O,.inl O,G⟩ O O) O (JLh (.ptr 1065 0) (Hu 1065 9 Y5 O O) O (Hw (u:=.junk) (Hj (u:=.agg [G0 v13,ST ByteArray.empty,U8 40,BL y7.High,G0 v16,G0 0,G0 1,U8 0,BL false]) (ds:=[G0 v13,ST ByteArray.empty,U8 40,BL y7.High,G0 v16,G0 0,G0 1,U8 0,BL false]) G00 O O O O O O O O) (G7 (hK12 ?_)))))
   obtain⟨kj17,hkj17,h⟩:=Rm h
   refine Qr (fun j17:Int×Bool=>kj17 j17=some r) (fun j17=>[(3,Ec s),(8,.vec 1063 s7.2.length 9 s7.2.length),(9,E1 s7.1),(11,Ei y7),(12,.ptr 1065 0),(21,E9 (l.take m6)),(22,G0 ((l.take m6).length:Int)),(23,Ej i7)]) (fun j17=>[(1062,.vec 61 9 (([]:List G9).length) (([]:List G9).map G9.av)),(1063,.vec 61 9 s7.2.length (s7.2.map G9.av)),(1065,.box 61 [G0 v13,ST ByteArray.empty,U8 j17.1,BL j17.2,G0 v16,G0 0,G0 1,U8 0,BL false])]) (fun Kj17 ej17=>?_) ?_
   ·
    refine Jr fun hK18=>(JLh (.dptr [BL y7.Small,BL y7.High]) (Gf H04 O O O) O (JLh (BL y7.Small) (Gj Qv O O O) O (G7 (hK18 (JCc O h (fun h hb=>?_) (fun h hb=>?_))))))
    ·
     refine G3 (JLh (.ptr 1065 2) (Qq Rv O O) O (Hw (u:=.junk) (Hj (u:=U8 20) (ds:=[G0 v13,ST ByteArray.empty,U8 20,BL y7.High,G0 v16,G0 0,G0 1,U8 0,BL false]) Hec O O O O O O O O) (JLh (.ptr 1065 3) (Qq H84 O O) O (Hw (u:=.junk) (Hj (u:=BL false) (ds:=[G0 v13,ST ByteArray.empty,U8 20,BL false,G0 v16,G0 0,G0 1,U8 0,BL false]) tf_size_4 O O O O O O O O) (G7 (ej17 _ _ (20,false) h ⟨(by repeat' constructor),⟨⟨_,rfl,.vec⟩,⟨_,rfl,.vec⟩,⟨_,rfl,.boxL rfl (by repeat' constructor)⟩,G⟩,rfl⟩))))))
    ·
     refine Gr (ej17 _ _ (40,y7.High) h ⟨(by repeat' constructor),⟨⟨_,rfl,.vec⟩,⟨_,rfl,.vec⟩,⟨_,rfl,.boxL rfl (by repeat' constructor)⟩,G⟩,rfl⟩)
   ·intro j17 h
    replace h:=app1 hkj17 h
    refine Jr fun hK19=>(Yv (.vec 1063 s7.2.length 9 s7.2.length) O (JLh (.agg [G0 v13,ST ByteArray.empty,U8 j17.1,BL j17.2,G0 v16,G0 0,G0 1,U8 0,BL false]) (G6f G49 O O O O) O (JLh (E2 [(G9.mk v13 ByteArray.empty j17.1 j17.2 v16 0 1 0 false)]) (H9 (xs:=[.agg [G0 v13,ST ByteArray.empty,U8 j17.1,BL j17.2,G0 v16,G0 0,G0 1,U8 0,BL false]]) O ⟨O,O,G⟩ Qb Y5 O O O O) O ?_)))
    obtain⟨ha20,h⟩:=J7 h
    refine JLh (.vec 1063 ((s7.2++[(G9.mk v13 ByteArray.empty j17.1 j17.2 v16 0 1 0 false)]).length) 9 ((s7.2++[(G9.mk v13 ByteArray.empty j17.1 j17.2 v16 0 1 0 false)]).length)) (G44 (f:=G9.av) (xs:=s7.2) (ys:=[(G9.mk v13 ByteArray.empty j17.1 j17.2 v16 0 1 0 false)]) (ver:=s7.2.length) (ver1:=(s7.2++[(G9.mk v13 ByteArray.empty j17.1 j17.2 v16 0 1 0 false)]).length) rfl rfl rfl rfl Qb H96 ha20 (fun _=>rfl) (.inl rfl) (by simp)) O (Yv (.vec 1063 ((s7.2++[(G9.mk v13 ByteArray.empty j17.1 j17.2 v16 0 1 0 false)]).length) 9 ((s7.2++[(G9.mk v13 ByteArray.empty j17.1 j17.2 v16 0 1 0 false)]).length)) O (G7 (hK19 ?_)))
    refine Gt [(3,Ec s),(8,.vec 1063 ((s7.2++[(G9.mk v13 ByteArray.empty j17.1 j17.2 v16 0 1 0 false)]).length) 9 ((s7.2++[(G9.mk v13 ByteArray.empty j17.1 j17.2 v16 0 1 0 false)]).length)),(9,E1 s7.1),(11,Ei y7),(12,.dptr [G0 v13,ST ByteArray.empty,U8 j17.1,BL j17.2,G0 v16,G0 0,G0 1,U8 0,BL false]),(21,E9 (l.take m6)),(22,G0 ((l.take m6).length:Int)),(23,Ej i7)] [(1062,.vec 61 9 (([]:List G9).length) (([]:List G9).map G9.av)),(1063,.vec 61 9 ((s7.2++[(G9.mk v13 ByteArray.empty j17.1 j17.2 v16 0 1 0 false)]).length) ((s7.2++[(G9.mk v13 ByteArray.empty j17.1 j17.2 v16 0 1 0 false)]).map G9.av))] 1065 rfl rfl rfl ⟨⟨_,rfl,.vec⟩,⟨_,rfl,.vec⟩,G⟩ rfl (by repeat' (first | exact .ptr | constructor)) ?_
    refine Jr fun hK21=>(JLh (.agg (Gp.cs s)) (Gh H5 O O O) O (JLh (.dptr [U8 j17.1,BL j17.2,G0 v16,G0 0,G0 1,U8 0,BL false]) (Gf Rv O O O) O (JLh (U8 j17.1) (Gj Ja O O O) O ?_)))
    obtain⟨r22,hr22,h⟩:=Gd h
    refine JLh (E4 r22) (Gu O (Hd9 s j17.1 r22 hr22) J59 ⟨O,O,O,O,G⟩) O (JLl J2 O O O fun hm51=>(Yv (G0 0) O (G7 (hK21 (Gw ?_)))))
    obtain⟨b49,kx49,hb49,hkx49,h⟩:=J0 h
    refine Hp (fun i49 (s49:(List Stowed))=>each b49 kx49 (List.drop i49 r22) i49 s49=some r) (fun i49 s49=>[(3,Ec s),(8,.vec 1063 ((s7.2++[(G9.mk v13 ByteArray.empty j17.1 j17.2 v16 0 1 0 false)]).length) 9 ((s7.2++[(G9.mk v13 ByteArray.empty j17.1 j17.2 v16 0 1 0 false)]).length)),(9,E1 s49),(11,Ei y7),(12,.dptr [G0 v13,ST ByteArray.empty,U8 j17.1,BL j17.2,G0 v16,G0 0,G0 1,U8 0,BL false]),(21,E9 (l.take m6)),(22,G0 ((l.take m6).length:Int)),(23,Ej i7),(50,E4 r22),(51,Ej r22.length),(52,Ej i49)]) (fun i49 s49=>[(1062,.vec 61 9 (([]:List G9).length) (([]:List G9).map G9.av)),(1063,.vec 61 9 ((s7.2++[(G9.mk v13 ByteArray.empty j17.1 j17.2 v16 0 1 0 false)]).length) ((s7.2++[(G9.mk v13 ByteArray.empty j17.1 j17.2 v16 0 1 0 false)]).map G9.av))]) (fun i49=>r22.length - i49) 0 s7.1 h ⟨(by repeat' constructor),⟨⟨_,rfl,.vec⟩,⟨_,rfl,.vec⟩,G⟩,rfl⟩ ?_
    clear h
    intro i49 s49 hi49 K49 e49
    refine Jr fun hK50=>(JLh (BL (decide ((i49:Int) < (r22.length:Int)))) (Jb O O O) O (G7 (hK50 (Js fun hK51=>Gm O (fun hb=>?_) (fun hb=>?_)))))
    ·
     have hk49:=Jk hb
     obtain⟨y49,nx49,hy49,hn49,h⟩:=Hq hi49 hk49
     replace h:=Ya hb49 h
     refine Gr (hK51 (Js fun hK52=>Gw (Jr fun hK53=>(JLh (Eh y49) (Hb (f:=Slot.av) (xs:=r22) (y:=y49) O O O J2 hy49 O) O (JLh (.agg (Slot.cs y49)) (Gh J9 O O O) O (JLh (.ptr 1066 0) (Hu 1066 3 Y6 O O) O (Hw (u:=.junk) (Hj (u:=.agg (Slot.cs y49)) (ds:=[G0 y49.G4,G0 y49.Tier,U8 y49.Half]) G37 O O O O O O O O) (G7 (hK53 ?_)))))))))
     refine Gt [(3,Ec s),(8,.vec 1063 ((s7.2++[(G9.mk v13 ByteArray.empty j17.1 j17.2 v16 0 1 0 false)]).length) 9 ((s7.2++[(G9.mk v13 ByteArray.empty j17.1 j17.2 v16 0 1 0 false)]).length)),(9,E1 s49),(11,Ei y7),(12,.dptr [G0 v13,ST ByteArray.empty,U8 j17.1,BL j17.2,G0 v16,G0 0,G0 1,U8 0,BL false]),(14,Eh y49),(21,E9 (l.take m6)),(22,G0 ((l.take m6).length:Int)),(23,Ej i7),(50,E4 r22),(51,Ej r22.length),(52,Ej i49)] [(1062,.vec 61 9 (([]:List G9).length) (([]:List G9).map G9.av)),(1063,.vec 61 9 ((s7.2++[(G9.mk v13 ByteArray.empty j17.1 j17.2 v16 0 1 0 false)]).length) ((s7.2++[(G9.mk v13 ByteArray.empty j17.1 j17.2 v16 0 1 0 false)]).map G9.av))] 1066 rfl rfl rfl ⟨⟨_,rfl,.vec⟩,⟨_,rfl,.vec⟩,G⟩ rfl (by repeat' (first | exact .ptr | constructor)) ?_
     refine Js fun hK54=>?_
     refine Yk (l':=[(3,Ec s),(8,.vec 1063 ((s7.2++[(G9.mk v13 ByteArray.empty j17.1 j17.2 v16 0 1 0 false)]).length) 9 ((s7.2++[(G9.mk v13 ByteArray.empty j17.1 j17.2 v16 0 1 0 false)]).length)),(9,E1 s49),(11,Ei y7),(12,.dptr [G0 v13,ST ByteArray.empty,U8 j17.1,BL j17.2,G0 v16,G0 0,G0 1,U8 0,BL false]),(14,Eh y49),(21,E9 (l.take m6)),(22,G0 ((l.take m6).length:Int)),(23,Ej i7),(50,E4 r22),(51,Ej r22.length),(52,Ej i49)]) (L':=[(1062,.vec 61 9 (([]:List G9).length) (([]:List G9).map G9.av)),(1063,.vec 61 9 ((s7.2++[(G9.mk v13 ByteArray.empty j17.1 j17.2 v16 0 1 0 false)]).length) ((s7.2++[(G9.mk v13 ByteArray.empty j17.1 j17.2 v16 0 1 0 false)]).map G9.av))]) ⟨(by repeat' constructor),⟨⟨_,rfl,.vec⟩,⟨_,rfl,.vec⟩,G⟩,rfl⟩ ?_
     obtain⟨ha55,h⟩:=J7 h
     obtain⟨ha56,h⟩:=J7 h
     refine Qa [0,2,8] [0,0,0,0,0,0,0,0,0,3] [0,1,0,2,2,2,2,2,0,3] [[(1062,.vec 61 9 (([]:List G9).length) (([]:List G9).map G9.av)),(1063,.vec 61 9 ((s7.2++[(G9.mk v13 ByteArray.empty j17.1 j17.2 v16 0 1 0 false)]).length) ((s7.2++[(G9.mk v13 ByteArray.empty j17.1 j17.2 v16 0 1 0 false)]).map G9.av))],((1067,.spare 49 4 ([]:List Stowed).length ([]:List Stowed).length)::[(1062,.vec 61 9 (([]:List G9).length) (([]:List G9).map G9.av)),(1063,.vec 61 9 ((s7.2++[(G9.mk v13 ByteArray.empty j17.1 j17.2 v16 0 1 0 false)]).length) ((s7.2++[(G9.mk v13 ByteArray.empty j17.1 j17.2 v16 0 1 0 false)]).map G9.av))]),((1067,.spare 49 4 (([]:List Stowed)++s49).length (([]:List Stowed)++s49).length)::((1067,.spare 49 4 ([]:List Stowed).length ([]:List Stowed).length)::[(1062,.vec 61 9 (([]:List G9).length) (([]:List G9).map G9.av)),(1063,.vec 61 9 ((s7.2++[(G9.mk v13 ByteArray.empty j17.1 j17.2 v16 0 1 0 false)]).length) ((s7.2++[(G9.mk v13 ByteArray.empty j17.1 j17.2 v16 0 1 0 false)]).map G9.av))])),((1067,.spare 49 4 ((([]:List Stowed)++s49)++[(Stowed.mk v13 y49)]).length ((([]:List Stowed)++s49)++[(Stowed.mk v13 y49)]).length)::((1067,.spare 49 4 (([]:List Stowed)++s49).length (([]:List Stowed)++s49).length)::((1067,.spare 49 4 ([]:List Stowed).length ([]:List Stowed).length)::[(1062,.vec 61 9 (([]:List G9).length) (([]:List G9).map G9.av)),(1063,.vec 61 9 ((s7.2++[(G9.mk v13 ByteArray.empty j17.1 j17.2 v16 0 1 0 false)]).length) ((s7.2++[(G9.mk v13 ByteArray.empty j17.1 j17.2 v16 0 1 0 false)]).map G9.av))])))] Qg (by kernel_rfl) rfl rfl ?_
     refine D_w (u:=OW 1067 4 Stowed.av ([]:List Stowed)) O O O O (Gz (He2 1067 49 4 O O H2) O) (Gv (u:=E1 s49) O O ⟨Gz (G5 O O) O,Gz (G5 O O) O,G⟩ (D_w (u:=OW 1067 4 Stowed.av (([]:List Stowed)++s49)) O O O O (Gz (H19 (f:=Stowed.av) (xs:=([]:List Stowed)) (ys:=s49) O O O O H2 G1c ha55 (fun _=>O) (.inl O)) O) (Gv (u:=.dptr [G0 v13,ST ByteArray.empty,U8 j17.1,BL j17.2,G0 v16,G0 0,G0 1,U8 0,BL false]) O O ⟨Gz (Gf G27 O O O) O,Gz (Gf G27 O O O) O,Gz (Gf G27 O O O) O,G⟩ (Gv (u:=G0 v13) O O ⟨Gz (Gj Gb O O O) O,Gz (Gj Gb O O O) O,Gz (Gj Gb O O O) O,G⟩ (Gv (u:=.agg (Slot.cs y49)) O O ⟨Gz (Gh J9 O O O) O,Gz (Gh J9 O O O) O,Gz (Gh J9 O O O) O,G⟩ (Gv (u:=.agg [G0 v13,G0 y49.G4,G0 y49.Tier,U8 y49.Half]) O O ⟨Gz (Hz (cs:=[G0 v13,G0 y49.G4,G0 y49.Tier,U8 y49.Half]) [(0,1),(1,3)] [G0 0,G0 0,G0 0,U8 0] [.int .i64 0,.int .i64 0,.int .i64 0,.int .u8 0] Zr G18 ⟨.inl O,.inl O,.inl O,.inl O,G⟩ O O) O,Gz (Hz (cs:=[G0 v13,G0 y49.G4,G0 y49.Tier,U8 y49.Half]) [(0,1),(1,3)] [G0 0,G0 0,G0 0,U8 0] [.int .i64 0,.int .i64 0,.int .i64 0,.int .u8 0] Zr G18 ⟨.inl O,.inl O,.inl O,.inl O,G⟩ O O) O,Gz (Hz (cs:=[G0 v13,G0 y49.G4,G0 y49.Tier,U8 y49.Half]) [(0,1),(1,3)] [G0 0,G0 0,G0 0,U8 0] [.int .i64 0,.int .i64 0,.int .i64 0,.int .u8 0] Zr G18 ⟨.inl O,.inl O,.inl O,.inl O,G⟩ O O) O,G⟩ (Gv (u:=E1 [(Stowed.mk v13 y49)]) O O ⟨Gz (H9 (xs:=[.agg [G0 v13,G0 y49.G4,G0 y49.Tier,U8 y49.Half]]) O ⟨O,O,G⟩ H2 Jx O O O O) O,Gz (H9 (xs:=[.agg [G0 v13,G0 y49.G4,G0 y49.Tier,U8 y49.Half]]) O ⟨O,O,G⟩ H2 Jx O O O O) O,Gz (H9 (xs:=[.agg [G0 v13,G0 y49.G4,G0 y49.Tier,U8 y49.Half]]) O ⟨O,O,G⟩ H2 Jx O O O O) O,G⟩ (D_w (u:=OW 1067 4 Stowed.av ((([]:List Stowed)++s49)++[(Stowed.mk v13 y49)])) O O O O (Gz (Rc (f:=Stowed.av) (xs:=(([]:List Stowed)++s49)) (ys:=[(Stowed.mk v13 y49)]) O O O O H2 G1c ha56 (fun _=>O) (.inl O) O) O) (Gv (u:=OW 1067 4 Stowed.av ((([]:List Stowed)++s49)++[(Stowed.mk v13 y49)])) O O ⟨Gz (G8 O O) O,G⟩ (Z8 ?_))))))))))
     refine hK54 (Js fun hK57=>?_)
     refine Yk (l':=[(3,Ec s),(8,.vec 1063 ((s7.2++[(G9.mk v13 ByteArray.empty j17.1 j17.2 v16 0 1 0 false)]).length) 9 ((s7.2++[(G9.mk v13 ByteArray.empty j17.1 j17.2 v16 0 1 0 false)]).length)),(9,E1 s49),(11,Ei y7),(12,.dptr [G0 v13,ST ByteArray.empty,U8 j17.1,BL j17.2,G0 v16,G0 0,G0 1,U8 0,BL false]),(14,Eh y49),(15,OW 1067 4 Stowed.av ((([]:List Stowed)++s49)++[(Stowed.mk v13 y49)])),(21,E9 (l.take m6)),(22,G0 ((l.take m6).length:Int)),(23,Ej i7),(50,E4 r22),(51,Ej r22.length),(52,Ej i49)]) (L':=[(1062,.vec 61 9 (([]:List G9).length) (([]:List G9).map G9.av)),(1063,.vec 61 9 ((s7.2++[(G9.mk v13 ByteArray.empty j17.1 j17.2 v16 0 1 0 false)]).length) ((s7.2++[(G9.mk v13 ByteArray.empty j17.1 j17.2 v16 0 1 0 false)]).map G9.av)),(1067,.spare 49 4 ((([]:List Stowed)++s49)++[(Stowed.mk v13 y49)]).length ((([]:List Stowed)++s49)++[(Stowed.mk v13 y49)]).length)]) ⟨(by repeat' constructor),⟨⟨_,rfl,.vec⟩,⟨_,rfl,.vec⟩,⟨_,rfl,.same⟩,G⟩,rfl⟩ ?_
     obtain⟨v58,hv58,h⟩:=Jp h
     obtain⟨v59,hv59,h⟩:=Gd h
     obtain⟨r60,hr60,h⟩:=Gd h
     refine JC_d0 Qg (by kernel_rfl) (Dq (Eh y49) (Gf Jy O O O) O (Dq (G0 y49.G4) (Gj Gb O O O) O (Dq (Ei y7) (Gf Jb7 O O O) O (Dq (U8 y7.G4) (Gj Ja O O O) O (Dq (G0 v58) (H66 Ga6 H0b hv58 O O) O (Dq (Ec s) (Gf Jc O O O) O (Dq (E3 s.Columns) (Gj Jv O O O) O (Dq (Ej s.Columns.length) (Zj (f:=G4.av) (xs:=s.Columns) Ji O O) O (Dq (G0 v59) (Jab (Yw hv59).1 (Yw hv59).2 O O O) O (Dq (BL (decide (y49.G4=v59))) (Q0 O O O) O (Dq (BL (decide (y49.G4=v59))) (G5 O O) O (Do (.agg (Gp.cs s)) [] O .sct G (fun hc=>Gh H5 O O O) O (Do (.vec 1063 ((s7.2++[(G9.mk v13 ByteArray.empty j17.1 j17.2 v16 0 1 0 false)]).length) 9 ((s7.2++[(G9.mk v13 ByteArray.empty j17.1 j17.2 v16 0 1 0 false)]).length)) [] O .sct G (fun hc=>G5 O O) O ?_)))))))))))))
     refine Do (OW 1067 4 Stowed.av ((([]:List Stowed)++s49)++[(Stowed.mk v13 y49)])) [] O .sct G (fun hc=>G5 O O) O (Do (BL r60) [76,77,78] O .sct ⟨Ua,Ua,Ua,G⟩ (fun hc=>Q17 (args:=[.agg (Gp.cs s),E2 (s7.2++[(G9.mk v13 ByteArray.empty j17.1 j17.2 v16 0 1 0 false)]),E1 ((([]:List Stowed)++s49)++[(Stowed.mk v13 y49)])]) O (Yr s (s7.2++[(G9.mk v13 ByteArray.empty j17.1 j17.2 v16 0 1 0 false)]) ((([]:List Stowed)++s49)++[(Stowed.mk v13 y49)]) r60 (H4 hc hr60)) G39 ⟨.data O O,.vec O,.data O O,G⟩ O) O (Dq (BL ((decide (y49.G4=v59))&&r60)) (Qd O O O O) O (Dnil ?_)))
     refine hK57 (JCc O h (fun h hb=>?_) (fun h hb=>?_))
     ·
      refine Jr fun hK61=>(Yv (OW 1067 4 Stowed.av ((([]:List Stowed)++s49)++[(Stowed.mk v13 y49)])) O (Yv (OW 1067 4 Stowed.av ((([]:List Stowed)++s49)++[(Stowed.mk v13 y49)])) O (G7 (hK61 (Ht (ej10 _ _ (((([]:List Stowed)++s49)++[(Stowed.mk v13 y49)]),(s7.2++[(G9.mk v13 ByteArray.empty j17.1 j17.2 v16 0 1 0 false)])) h ⟨⟨.same O,.same O,.list O,.same O,.same O,.same O,G⟩,⟨⟨_,O,.vec⟩,⟨_,O,.vec⟩,G⟩,O⟩))))))
     ·
      refine Gr (hK52 (G3 (JLh (G0 ((i49+1:Nat):Int)) (Hx (Ho hk49 hm51) O O O) O (Yv (G0 ((i49+1:Nat):Int)) O (G7 (e49 _ _ (i49+1) s49 (app1 hn49 h) (by omega) ⟨(by repeat' constructor),⟨⟨_,rfl,.vec⟩,⟨_,rfl,.vec⟩,G⟩,rfl⟩))))))
    ·
     have h:=app1 hkx49 (Hr hi49 (Hc hb))
     refine Ht (ej10 _ _ (s49,(s7.2++[(G9.mk v13 ByteArray.empty j17.1 j17.2 v16 0 1 0 false)])) h ⟨(by repeat' constructor),⟨⟨_,rfl,.vec⟩,⟨_,rfl,.vec⟩,G⟩,rfl⟩)
  ·intro j10 h
   replace h:=app1 hkj10 h
   refine G3 (JLh (G0 ((i7+1:Nat):Int)) (Hx (Ho hk7 hm22) O O O) O (Yv (G0 ((i7+1:Nat):Int)) O (G7 (e7 _ _ (i7+1) (j10.1,j10.2) (app1 hn7 h) (by omega) ⟨(by repeat' constructor),⟨⟨_,rfl,.vec⟩,⟨_,rfl,.vec⟩,G⟩,rfl⟩))))
 ·
  have h:=app1 hkx7 (Hr hi7 (Hc hb))
  refine Ht (hK4 (Jr fun hK62=>(Yv (.vec 1063 s7.2.length 9 s7.2.length) O (Yv (E1 s7.1) O (Yv (.vec 1063 s7.2.length 9 s7.2.length) O (Yv (E1 s7.1) O (G7 (hK62 (H7c 6 O O (fun hn_=>Gx ?_))))))))))
  obtain rfl:=Option.some.inj h
  exact⟨[.vec 1063 s7.2.length 9 s7.2.length,E1 s7.1],[(1063,.vec 61 9 s7.2.length (s7.2.map G9.av))],⟨⟨_,O,.vec⟩,G⟩,O,⟨⟨_,O,.conv (.same O)⟩,⟨_,O,.conv (.same O)⟩,G⟩,s7.2.length,congrArg (fun n_:Nat=>(.tup [.vec 1063 s7.2.length 9 n_,E1 s7.1]:AV)) (hn_.trans (List.length_map _)),O⟩
end
end Go.Proofs.YtpgkkengffpnpaaGreat
