/-
 Models of functions of the program,and that they return what the models say.
-/
import Derived.Test.YtidpfkmbfgihlaaGreatSpecBk
set_option maxRecDepth 100000
set_option maxHeartbeats 1000000
set_option linter.unusedVariables false
set_option linter.unusedSimpArgs false
namespace Go.Proofs.YtidpfkmbfgihlaaGreat
open Go.RowKit
noncomputable section

namespace XQF
open XAF
open XCF
open XSF
open XKF
open XTF
open XUF
open XBF
open XPF
open XJF
theorem J34:Gf2 Eo 66 6=true:=by kernel_rfl
theorem Q68:H7 Eo 15=true:=by kernel_rfl
theorem Rd4:H7 Eo 17=true:=by kernel_rfl
theorem Rc9:H7 Eo 48=true:=by kernel_rfl
theorem Rac:Z5 Eo 45 6 48=true:=by kernel_rfl
theorem Raa:Yt Eo 39 1=true:=by kernel_rfl
theorem Q47:Yt Eo 66 6=true:=by kernel_rfl
theorem G59:sliceB Eo 64 66 6=true:=by kernel_rfl
theorem Y40:(Eo.info? 4).bind (fun i=>i.zero.map Value.cells)=some (List.toArray [.bool false]):=by kernel_rfl
theorem R43:Y1 Eo 39 1=true:=by kernel_rfl
theorem Jef:Y1 Eo 66 6=true:=by kernel_rfl
end XQF
open XAF
open XCF
open XSF
open XKF
open XTF
open XUF
open XBF
open XPF
open XJF
open XQF

def Zp (s:List Move):Option Unit:=
 some ()
theorem H54 (s:List Move) (r:Unit) (h:Zp s=some r):Pure Eo 17 [Ec s] (·=.fn 48 [.dptr [Ec s]]):=by
 unfold Zp at h
 refine Gy [.tmp 2] Tryz.func17 O O (Jr fun hK1=>(JLh (.ptr 1042 0) (Jk (cs:=[Ec s]) 1042 O O O O O) O (JLm (.sc .nilFunc) O (G5 (hK1 (Gm [(1,.dptr [Ec s])] [] 1042 rfl rfl rfl G rfl (by exact⟨.ptr,G⟩) (Jr fun hK2=>(JLh (.fn 48 [.dptr [Ec s]]) (Jy (cs:=[.dptr [Ec s]]) O O) O (JLm (.fn 48 [.dptr [Ec s]]) O (G5 (hK2 (Gq (⟨[.fn 48 [.dptr [Ec s]]],[],G,O,⟨⟨_,O,.conv (.same O)⟩,G⟩,O,congrArg (fun _:Unit=>(.fn 48 [.dptr [Ec s]]:AV)) (Option.some.inj h)⟩)))))))))))))

def Yw (F:Nat) (places:List Ha) (covers:Int) (drops:List Gu) (steps:List Hd):Option Bool:=
 bnd (Yk) fun r4=>
 bif (!r4) then
 (some false)
 else
 (bnd (Qs places covers drops) fun r7=>
  bnd (J1c (min (steps.length:Int) 30) steps.length) fun m13=>
  each (fun y54 i54 (s54:(List Move)×Gb) nx54=>
   jp (fun kj57=>
    bnd (Yp y54 r7.1 r7.2.1 s54.2) fun r60=>
    bnd (G19 s54.2 r60) fun r62=>
    bif decide (r62.1=0) then
    (need (decide ((s54.1.length+[r60].length)*48≤140737488355328∧s54.1.length+[r60].length≤maxLen)) <|
     kj57 ((s54.1++[r60]),r62.2))
    else
    (kj57 (s54.1,r62.2))) fun(j57:(List Move)×Gb)=>
   nx54 (j57.1,j57.2))
  (fun(s54:(List Move)×Gb)=>
   bnd (Z0 s54.2) fun r65=>
   bnd (Zp s54.1) fun r68=>
   bnd (Y5 F s54.1) fun ys77=>
   each (fun y77 i77 (s77:Gb) nx77=>
    bnd (G19 s77 (Move.mk (IntKind.u8.wrap (5 - y77.2.Kind)) y77.2.Box y77.2.Slot y77.2.G8)) fun r80=>
    bif decide (r80.1≠0) then
    (none)
    else
    (nx77 r80.2))
   (fun(s77:Gb)=>
    bnd (Qz s77) fun r83=>
    bnd (Q3 r83 r7.2.2.1) fun r84=>
    bnd (bif r84 then Rw s77 else some default) fun r85=>
    bnd (bif (r84&&(decide ((r85.length:Int)=0))) then Z0 s77 else some default) fun r86=>
    bnd (bif (r84&&(decide ((r85.length:Int)=0))) then chk (2*r65) some else some 0) fun v87=>
    some ((r84&&(decide ((r85.length:Int)=0)))&&(decide (r86=v87)))) ys77 0 s54.2) (steps.take m13) 0 ([],r7.2.2.2))
abbrev Kn (s54:(List Move)×Gb):List AV:=[E1 s54.2.ship.Columns,E7 s54.2.ship.Covers,I64 s54.2.ship.Light.Kilos,I64 s54.2.ship.Light.X,I64 s54.2.ship.Light.Y,I64 s54.2.ship.Light.Z,E3 s54.2.ship.Rows,E4 s54.2.ship.Frames,E5 s54.2.ship.Tanks,I64 s54.2.ship.G4.Tolerance,I64 s54.2.ship.G4.Trim,I64 s54.2.ship.G4.List_,I64 s54.2.ship.G4.Stability,.mp 1197,.mp 1198,.mp 1199,I64 s54.2.lifts]
abbrev Ko (s77:Gb):List AV:=[E1 s77.ship.Columns,E7 s77.ship.Covers,I64 s77.ship.Light.Kilos,I64 s77.ship.Light.X,I64 s77.ship.Light.Y,I64 s77.ship.Light.Z,E3 s77.ship.Rows,E4 s77.ship.Frames,E5 s77.ship.Tanks,I64 s77.ship.G4.Tolerance,I64 s77.ship.G4.Trim,I64 s77.ship.G4.List_,I64 s77.ship.G4.Stability,.mp 1197,.mp 1198,.mp 1199,I64 s77.lifts]
theorem H7b (F:Nat) (places:List Ha) (covers:Int) (drops:List Gu) (steps:List Hd) (r:Bool) (h:Yw F places covers drops steps=some r):Pure Eo 4 [Ed places,.sc (.int .u32 covers),Eb drops,LS 6 Hd.av steps] (·=BL r):=by
 unfold Yw at h
 refine Gy [.cell 8 4] Tryz.func4 O O (Jr fun hK1=>(JLh (.ptr 1003 0) (G58 1003 [BL false] [.bool false] Y40 ⟨.inl O,G⟩ O O) O (G5 (hK1 (Js fun hK2=>Jr fun hK3=>?_)))))
 obtain⟨r4,hr4,h⟩:=Ga h
 refine JLh (BL r4) (Gs O (G42  r4 hr4) Jc9 G) O (JLh (BL (!r4)) (Qx (b:=r4) O O) O (G5 (hK3 (JCc O h (fun h hb=>?_) (fun h hb=>?_)))))
 ·
  refine Jr fun hK5=>(Ho (u:=.junk) (Hc (u:=BL false) (ds:=[BL false]) H58 O O O O O O O O) (G5 (hK5 (Gq (⟨[BL false],[],G,O,⟨⟨_,⟨_,_,_,_,O,O,O,.inr ⟨Q1,O⟩⟩,.conv (.same O)⟩,G⟩,O,congrArg BL (Option.some.inj h)⟩)))))
 ·
  refine Gr (hK2 (Jr fun hK6=>(JLm (Ed places) O (JLm (.sc (.int .u32 covers)) O (JLm (Eb drops) O ?_)))))
  obtain⟨r7,hr7,h⟩:=Ga h
  refine JLh (.tup [.agg (Gk.cs r7.1),E8 r7.2.1,E6 r7.2.2.1,.ptr 1196 0]) (Rs (args:=[Ed places,.sc (.int .u32 covers),Eb drops]) (L0:=[]) (Lr:=[(1196,.box 97 [E1 r7.2.2.2.ship.Columns,E7 r7.2.2.2.ship.Covers,I64 r7.2.2.2.ship.Light.Kilos,I64 r7.2.2.2.ship.Light.X,I64 r7.2.2.2.ship.Light.Y,I64 r7.2.2.2.ship.Light.Z,E3 r7.2.2.2.ship.Rows,E4 r7.2.2.2.ship.Frames,E5 r7.2.2.2.ship.Tanks,I64 r7.2.2.2.ship.G4.Tolerance,I64 r7.2.2.2.ship.G4.Trim,I64 r7.2.2.2.ship.G4.List_,I64 r7.2.2.2.ship.G4.Stability,.mp 1197,.mp 1198,.mp 1199,I64 r7.2.2.2.lifts]),(1197,TP 93 Slot.kv Box.av r7.2.2.2.on),(1198,TP 94 (fun n:Int=>Value.int .i64 n) Box.av r7.2.2.2.quay),(1199,TP 95 (fun n:Int=>Value.int .i64 n) I64 r7.2.2.2.open_)]) O (Ge0 places covers drops r7 hr7) Jc8 ⟨.inl O,O,.inl O,O,.inl O,O,G⟩ G O O O) O (JLm (.tup [.agg (Gk.cs r7.1),E8 r7.2.1,E6 r7.2.2.1,.ptr 1196 0]) O (JLh (.agg (Gk.cs r7.1)) (Gz O O O) O (JLh (E8 r7.2.1) (Gz O O O) O (JLh (E6 r7.2.2.1) (Gz O O O) O (JLh (.ptr 1196 0) (Gz O O O) O (JLh (.ptr 1004 0) (Hp 1004 13 Gd6 O O) O (JLh (.ptr 1005 0) (Hp 1005 1 R43 O O) O (Ho (u:=.junk) (Hc (u:=.agg (Gk.cs r7.1)) (ds:=(Gk.cs r7.1)) Zs O O O O O O O O) (JLm (E8 r7.2.1) O (JLm (E6 r7.2.2.1) O (Ho (u:=.junk) (Hc (u:=.ptr 1196 0) (ds:=[.ptr 1196 0]) Raa O O O O O O O O) (G5 (hK6 ?_)))))))))))))
  refine Gm [(3,LS 6 Hd.av steps),(8,.ptr 1003 0),(9,Eg r7.1),(10,E8 r7.2.1),(11,E6 r7.2.2.1),(12,.ptr 1005 0)] [(1003,.box 4 [BL false]),(1196,.box 97 [E1 r7.2.2.2.ship.Columns,E7 r7.2.2.2.ship.Covers,I64 r7.2.2.2.ship.Light.Kilos,I64 r7.2.2.2.ship.Light.X,I64 r7.2.2.2.ship.Light.Y,I64 r7.2.2.2.ship.Light.Z,E3 r7.2.2.2.ship.Rows,E4 r7.2.2.2.ship.Frames,E5 r7.2.2.2.ship.Tanks,I64 r7.2.2.2.ship.G4.Tolerance,I64 r7.2.2.2.ship.G4.Trim,I64 r7.2.2.2.ship.G4.List_,I64 r7.2.2.2.ship.G4.Stability,.mp 1197,.mp 1198,.mp 1199,I64 r7.2.2.2.lifts]),(1197,TP 93 Slot.kv Box.av r7.2.2.2.on),(1198,TP 94 (fun n:Int=>Value.int .i64 n) Box.av r7.2.2.2.quay),(1199,TP 95 (fun n:Int=>Value.int .i64 n) I64 r7.2.2.2.open_),(1005,.box 39 [.ptr 1196 0])] 1004 rfl rfl rfl ⟨⟨_,rfl,.boxEq rfl rfl⟩,⟨_,rfl,.boxEq rfl rfl⟩,⟨_,rfl,.map⟩,⟨_,rfl,.map⟩,⟨_,rfl,.map⟩,⟨_,rfl,.boxEq rfl rfl⟩,G⟩ rfl (by repeat' (first | exact .ptr | constructor)) ?_
  refine Js fun hK8=>Jr fun hK9=>(JLh (.ptr 1196 0) (Hx Hw O O O O) O (JLh (BL false) (Jc3 H59 O O) O (G5 (hK9 (G27 O (Gr (hK8 (Jr fun hK10=>(JLh (OW 1006 6 Move.av ([]:List Move)) (G57 1006 45 6 O O O) O (G5 (hK10 (Js fun hK11=>Jr fun hK12=>(JLm (LS 6 Hd.av steps) O (JLm (LS 6 Hd.av steps) O (JLl G59 O O O fun hm35=>(JLh (I64 (min (steps.length:Int) 30)) (R0f O O O) O ?_))))))))))))))))
  obtain⟨m13,hm13,h⟩:=Ga h
  refine JLh (LS 6 Hd.av (steps.take m13)) (H14 (f:=Hd.av) (xs:=steps) O O O G59 (Gd9 hm13)) O (JLl G59 O O O fun hm38=>(JLm (I64 0) O (G5 (hK12 (Gw ?_)))))
  obtain⟨b54,kx54,hb54,hkx54,h⟩:=Jx h
  refine Jb (fun i54 (s54:(List Move)×Gb)=>each b54 kx54 (List.drop i54 (steps.take m13)) i54 s54=some r) (fun i54 s54=>[(8,.ptr 1003 0),(9,Eg r7.1),(10,E8 r7.2.1),(11,E6 r7.2.2.1),(12,.ptr 1005 0),(13,OW 1006 6 Move.av s54.1),(37,LS 6 Hd.av (steps.take m13)),(38,I64 ((steps.take m13).length:Int)),(39,En i54)]) (fun i54 s54=>[(1196,.box 97 (Kn s54)),(1197,TP 93 Slot.kv Box.av s54.2.on),(1198,TP 94 (fun n:Int=>Value.int .i64 n) Box.av s54.2.quay),(1199,TP 95 (fun n:Int=>Value.int .i64 n) I64 s54.2.open_),(1006,.spare 45 6 s54.1.length s54.1.length),(1003,.box 4 [BL false]),(1005,.box 39 [.ptr 1196 0])]) (fun i54=>(steps.take m13).length - i54) 0 ([],r7.2.2.2) h ⟨(.sm O O),⟨⟨_,rfl,.boxL rfl (.sm O O)⟩,⟨_,rfl,.map⟩,⟨_,rfl,.map⟩,⟨_,rfl,.map⟩,⟨_,rfl,.same⟩,⟨_,rfl,.boxL rfl ⟨.same rfl,G⟩⟩,⟨_,rfl,.boxL rfl ⟨.same rfl,G⟩⟩,G⟩,rfl⟩ ?_
  clear h
  intro i54 s54 hi54 K54 e54
  refine Jr fun hK55=>(JLh (BL (decide ((i54:Int) < ((steps.take m13).length:Int)))) (Qg O O O) O (G5 (hK55 (Js fun hK56=>Gn O (fun hb=>?_) (fun hb=>?_)))))
  ·
   have hk54:=Qr hb
   obtain⟨y54,nx54,hy54,hn54,h⟩:=J9 hi54 hk54
   replace h:=G17 hb54 h
   refine Gr (hK56 ?_)
   obtain⟨kj57,hkj57,h⟩:=Yu h
   refine Rg (fun j57:(List Move)×Gb=>kj57 j57=some r) (fun j57=>[(8,.ptr 1003 0),(9,Eg r7.1),(10,E8 r7.2.1),(11,E6 r7.2.2.1),(12,.ptr 1005 0),(13,OW 1006 6 Move.av j57.1),(37,LS 6 Hd.av (steps.take m13)),(38,I64 ((steps.take m13).length:Int)),(39,En i54)]) (fun j57=>[(1196,.box 97 [E1 j57.2.ship.Columns,E7 j57.2.ship.Covers,I64 j57.2.ship.Light.Kilos,I64 j57.2.ship.Light.X,I64 j57.2.ship.Light.Y,I64 j57.2.ship.Light.Z,E3 j57.2.ship.Rows,E4 j57.2.ship.Frames,E5 j57.2.ship.Tanks,I64 j57.2.ship.G4.Tolerance,I64 j57.2.ship.G4.Trim,I64 j57.2.ship.G4.List_,I64 j57.2.ship.G4.Stability,.mp 1197,.mp 1198,.mp 1199,I64 j57.2.lifts]),(1197,TP 93 Slot.kv Box.av j57.2.on),(1198,TP 94 (fun n:Int=>Value.int .i64 n) Box.av j57.2.quay),(1199,TP 95 (fun n:Int=>Value.int .i64 n) I64 j57.2.open_),(1006,.spare 45 6 j57.1.length j57.1.length),(1003,.box 4 [BL false]),(1005,.box 39 [.ptr 1196 0])]) (fun Kj57 ej57=>?_) ?_
   ·
    refine Gw (Jr fun hK58=>(JLh (.dptr (Hd.cs y54)) (Hf (f:=Hd.av) (xs:=(steps.take m13)) (y:=y54) O O O G59 hy54 O) O (JLh (.agg (Hd.cs y54)) (Gi J34 O O O) O (JLh (.ptr 1007 0) (Hp 1007 6 Jef O O) O (Ho (u:=.junk) (Hc (u:=.agg (Hd.cs y54)) (ds:=[U8 y54.Kind,U8 y54.Box,U8 y54.G2,U8 y54.Tier,U8 y54.Half,U8 y54.G8]) Q47 O O O O O O O O) (G5 (hK58 ?_)))))))
    refine Gm [(8,.ptr 1003 0),(9,Eg r7.1),(10,E8 r7.2.1),(11,E6 r7.2.2.1),(12,.ptr 1005 0),(13,OW 1006 6 Move.av s54.1),(15,.dptr (Hd.cs y54)),(37,LS 6 Hd.av (steps.take m13)),(38,I64 ((steps.take m13).length:Int)),(39,En i54)] [(1196,.box 97 (Kn s54)),(1197,TP 93 Slot.kv Box.av s54.2.on),(1198,TP 94 (fun n:Int=>Value.int .i64 n) Box.av s54.2.quay),(1199,TP 95 (fun n:Int=>Value.int .i64 n) I64 s54.2.open_),(1006,.spare 45 6 s54.1.length s54.1.length),(1003,.box 4 [BL false]),(1005,.box 39 [.ptr 1196 0])] 1007 rfl rfl rfl ⟨⟨_,rfl,.boxEq rfl rfl⟩,⟨_,rfl,.map⟩,⟨_,rfl,.map⟩,⟨_,rfl,.map⟩,⟨_,rfl,.same⟩,⟨_,rfl,.boxEq rfl rfl⟩,⟨_,rfl,.boxEq rfl rfl⟩,G⟩ rfl (by repeat' (first | exact .ptr | constructor)) ?_
    refine Jr fun hK59=>(JLh (.agg (Hd.cs y54)) (Gi J34 O O O) O (JLh (.agg (Gk.cs r7.1)) (Gi Hq O O O) O (JLm (E8 r7.2.1) O (JLh (.ptr 1196 0) (Hx Hw O O O O) O ?_))))
    obtain⟨r60,hr60,h⟩:=Ga h
    refine JLh (.agg (Move.cs r60)) (Z8 (args:=[.agg (Hd.cs y54),.agg (Gk.cs r7.1),E8 r7.2.1,Ef s54.2]) O (Gdf y54 r7.1 r7.2.1 s54.2 r60 hr60) Q68 ⟨.data O O,.data O O,.data O O,.ptrL O ⟨.data O O,.data O O,.data O O,.data O O,.data O O,.data O O,.data O O,.data O O,.data O O,.data O O,.data O O,.data O O,.data O O,.mp O,.mp O,.mp O,.data O O,G⟩,G⟩ O) O (JLh (.ptr 1008 0) (Hp 1008 6 Gd5 O O) O (Ho (u:=.junk) (Hc (u:=.agg (Move.cs r60)) (ds:=[U8 r60.Kind,I64 r60.Box,I64 r60.Slot.G2,I64 r60.Slot.Tier,U8 r60.Slot.Half,I64 r60.G8]) H60 O O O O O O O O) (G5 (hK59 ?_))))
    refine Gm [(8,.ptr 1003 0),(9,Eg r7.1),(10,E8 r7.2.1),(11,E6 r7.2.2.1),(12,.ptr 1005 0),(13,OW 1006 6 Move.av s54.1),(16,Ee r60),(37,LS 6 Hd.av (steps.take m13)),(38,I64 ((steps.take m13).length:Int)),(39,En i54)] [(1196,.box 97 (Kn s54)),(1197,TP 93 Slot.kv Box.av s54.2.on),(1198,TP 94 (fun n:Int=>Value.int .i64 n) Box.av s54.2.quay),(1199,TP 95 (fun n:Int=>Value.int .i64 n) I64 s54.2.open_),(1006,.spare 45 6 s54.1.length s54.1.length),(1003,.box 4 [BL false]),(1005,.box 39 [.ptr 1196 0])] 1008 rfl rfl rfl ⟨⟨_,rfl,.boxEq rfl rfl⟩,⟨_,rfl,.map⟩,⟨_,rfl,.map⟩,⟨_,rfl,.map⟩,⟨_,rfl,.same⟩,⟨_,rfl,.boxEq rfl rfl⟩,⟨_,rfl,.boxEq rfl rfl⟩,G⟩ rfl (by repeat' (first | exact .ptr | constructor)) ?_
    refine Jr fun hK61=>(JLh (.ptr 1196 0) (Hx Hw O O O O) O (JLh (.agg (Move.cs r60)) (Gi G2c O O O) O ?_))
    obtain⟨r62,hr62,h⟩:=Ga h
    refine JLh (I64 r62.1) (Rs (args:=[.ptr 1196 0,.agg (Move.cs r60)]) (L0:=[(1196,.box 97 (Kn s54)),(1197,TP 93 Slot.kv Box.av s54.2.on),(1198,TP 94 (fun n:Int=>Value.int .i64 n) Box.av s54.2.quay),(1199,TP 95 (fun n:Int=>Value.int .i64 n) I64 s54.2.open_)]) (Lr:=[(1196,.box 97 [E1 r62.2.ship.Columns,E7 r62.2.ship.Covers,I64 r62.2.ship.Light.Kilos,I64 r62.2.ship.Light.X,I64 r62.2.ship.Light.Y,I64 r62.2.ship.Light.Z,E3 r62.2.ship.Rows,E4 r62.2.ship.Frames,E5 r62.2.ship.Tanks,I64 r62.2.ship.G4.Tolerance,I64 r62.2.ship.G4.Trim,I64 r62.2.ship.G4.List_,I64 r62.2.ship.G4.Stability,.mp 1197,.mp 1198,.mp 1199,I64 r62.2.lifts]),(1197,TP 93 Slot.kv Box.av r62.2.on),(1198,TP 94 (fun n:Int=>Value.int .i64 n) Box.av r62.2.quay),(1199,TP 95 (fun n:Int=>Value.int .i64 n) I64 r62.2.open_)]) O (G9d s54.2 r60 r62 hr62) Hb0 ⟨.inl O,O,.inl O,O,G⟩ ⟨O,O,O,O,G⟩ O O O) O (JLh (BL (decide (r62.1=0))) (Q0 O O O) O (G5 (hK61 ?_)))
    refine JCc O h ?_ ?_<;>intro h hb
    ·
     refine G1 (JLm (OW 1006 6 Move.av s54.1) O (JLh (.agg (Move.cs r60)) (Gi G2c O O O) O (JLh (Ec [r60]) (H8 (xs:=[.agg (Move.cs r60)]) O ⟨O,O,G⟩ G84 Gd5 O O O O) O ?_)))
     obtain⟨ha63,h⟩:=J7 h
     refine JLh (OW 1006 6 Move.av (s54.1++[r60])) (Qk (f:=Move.av) (xs:=s54.1) (ys:=[r60]) O O O O G84 Rac ha63 (fun _=>O) (.inl O) O) O (JLm (OW 1006 6 Move.av (s54.1++[r60])) O (G5 (ej57 _ _ ((s54.1++[r60]),r62.2) h ⟨(.sm O O),⟨⟨_,rfl,.boxL rfl (.sm O O)⟩,⟨_,rfl,.map⟩,⟨_,rfl,.map⟩,⟨_,rfl,.map⟩,⟨_,rfl,.same⟩,⟨_,rfl,.boxL rfl ⟨.same rfl,G⟩⟩,⟨_,rfl,.boxL rfl ⟨.same rfl,G⟩⟩,G⟩,rfl⟩)))
    ·
     refine Gr (ej57 _ _ (s54.1,r62.2) h ⟨(.sm O O),⟨⟨_,rfl,.boxL rfl (.sm O O)⟩,⟨_,rfl,.map⟩,⟨_,rfl,.map⟩,⟨_,rfl,.map⟩,⟨_,rfl,.same⟩,⟨_,rfl,.boxL rfl ⟨.same rfl,G⟩⟩,⟨_,rfl,.boxL rfl ⟨.same rfl,G⟩⟩,G⟩,rfl⟩)
   ·intro j57 h
    replace h:=app1 hkj57 h
    refine G1 (JLh (I64 ((i54+1:Nat):Int)) (Jf (J6 hk54 hm38) O O O) O (JLm (I64 ((i54+1:Nat):Int)) O (G5 (e54 _ _ (i54+1) (j57.1,j57.2) (app1 hn54 h) (by omega) ⟨(.sm O O),⟨⟨_,rfl,.boxL rfl (.sm O O)⟩,⟨_,rfl,.map⟩,⟨_,rfl,.map⟩,⟨_,rfl,.map⟩,⟨_,rfl,.same⟩,⟨_,rfl,.boxL rfl ⟨.same rfl,G⟩⟩,⟨_,rfl,.boxL rfl ⟨.same rfl,G⟩⟩,G⟩,rfl⟩))))
  ·
   have h:=app1 hkx54 (Ja hi54 (Hs hb))
   refine Je (hK11 (Jr fun hK64=>(JLh (.ptr 1196 0) (Hx Hw O O O O) O ?_)))
   obtain⟨r65,hr65,h⟩:=Ga h
   refine JLh (I64 r65) (Z8 (args:=[.dptr (Gb.cs s54.2)]) O (G3c s54.2 r65 hr65) H65 ⟨.ptrL O ⟨.data O O,.data O O,.data O O,.data O O,.data O O,.data O O,.data O O,.data O O,.data O O,.data O O,.data O O,.data O O,.data O O,.mp O,.mp O,.mp O,.data O O,G⟩,G⟩ O) O (JLm (I64 r65) O (G5 (hK64 (Js fun hK66=>Jr fun hK67=>(JLm (OW 1006 6 Move.av s54.1) O ?_)))))
   obtain⟨r68,hr68,h⟩:=Ga h
   refine JLh (.fn 48 [.dptr [Ec s54.1]]) (Gs O (H54 s54.1 r68 hr68) Rd4 ⟨O,O,G⟩) O (G5 (hK67 (Gw ?_)))
   obtain⟨ys77,hy_77,h⟩:=Ga h
   obtain⟨b77,kx77,hb77,hkx77,h⟩:=Jx h
   refine Jba (ps:=[61,62]) [(8,.ptr 1003 0),(11,E6 r7.2.2.1),(12,.ptr 1005 0),(17,I64 r65),(60,.fn 48 [.dptr [Ec s54.1]])] (ys77.map (fun y:Int×Move=>[I64 y.1,.agg (Move.cs y.2)])) (fun i77 (s77:Gb)=>each b77 kx77 (List.drop i77 ys77) i77 s77=some r) (fun s77=>[(1196,.box 97 (Ko s77)),(1197,TP 93 Slot.kv Box.av s77.on),(1198,TP 94 (fun n:Int=>Value.int .i64 n) Box.av s77.quay),(1199,TP 95 (fun n:Int=>Value.int .i64 n) I64 s77.open_),(1003,.box 4 [BL false]),(1005,.box 39 [.ptr 1196 0])]) s54.2 rfl rfl rfl Rc9 (H2c.down F s54.1 ys77 hy_77) h ⟨(.sm O O),⟨⟨_,rfl,.boxL rfl (.sm O O)⟩,⟨_,rfl,.map⟩,⟨_,rfl,.map⟩,⟨_,rfl,.map⟩,⟨_,rfl,.boxL rfl ⟨.same rfl,trivial⟩⟩,⟨_,rfl,.boxL rfl ⟨.same rfl,trivial⟩⟩,trivial⟩,rfl⟩ rfl (fun us_ hus_=>by obtain⟨_,_,rfl⟩:=List.mem_map.1 hus_; rfl) (fun p_ hp_=>Nat.blt_eq.mp (by revert p_; decide)) (fun _=>(.sm O O)) (fun _=>rfl) ?_ ?_
   ·
    intro i77 us_ s77 hu_ hi77 lr_ K77 e77
    obtain⟨hk77,rfl⟩:=Y1e hu_
    obtain⟨y77,nx77,hy77,hn77,h⟩:=J9 hi77 hk77
    replace h:=G17 hb77 h
    obtain⟨_,rfl⟩:=List.getElem?_eq_some_iff.1 hy77
    generalize ys77[i77]=y77 at h ⊢
    change JC _ _ _ _ [(62,.agg (Move.cs y77.2)),(61,I64 y77.1),(8,.ptr 1003 0),(11,E6 r7.2.2.1),(12,.ptr 1005 0),(17,I64 r65),(60,.fn 48 [.dptr [Ec s54.1]])] [(1196,.box 97 (Ko s77)),(1197,TP 93 Slot.kv Box.av s77.on),(1198,TP 94 (fun n:Int=>Value.int .i64 n) Box.av s77.quay),(1199,TP 95 (fun n:Int=>Value.int .i64 n) I64 s77.open_),(1003,.box 4 [BL false]),(1005,.box 39 [.ptr 1196 0])]
    refine G1 (JLh (.ptr 1009 0) (Hp 1009 6 Gd5 O O) O (Ho (u:=.junk) (Hc (u:=.agg (Move.cs y77.2)) (ds:=[U8 y77.2.Kind,I64 y77.2.Box,I64 y77.2.Slot.G2,I64 y77.2.Slot.Tier,U8 y77.2.Slot.Half,I64 y77.2.G8]) H60 O O O O O O O O) (G5 (Qa6 (Gw (Jr fun hK78=>(JLh (.ptr 1009 0) (Hh G74 O O) O (JLh (U8 y77.2.Kind) (Hx Hn O O O O) O (JLh (U8 (IntKind.u8.wrap (5 - y77.2.Kind))) (H49 O O O O) O (JLh (.ptr 1009 0) (Hh G74 O O) O (Ho (u:=.junk) (Hc (u:=U8 (IntKind.u8.wrap (5 - y77.2.Kind))) (ds:=[U8 (IntKind.u8.wrap (5 - y77.2.Kind)),I64 y77.2.Box,I64 y77.2.Slot.G2,I64 y77.2.Slot.Tier,U8 y77.2.Slot.Half,I64 y77.2.G8]) J33 O O O O O O O O) (G5 (hK78 ?_)))))))))))))
    refine Jr fun hK79=>(JLh (.ptr 1196 0) (Hx Hw O O O O) O (JLh (.agg [U8 (IntKind.u8.wrap (5 - y77.2.Kind)),I64 y77.2.Box,I64 y77.2.Slot.G2,I64 y77.2.Slot.Tier,U8 y77.2.Slot.Half,I64 y77.2.G8]) (Ga3 G2c O O O O) O ?_))
    obtain⟨r80,hr80,h⟩:=Ga h
    refine JLh (I64 r80.1) (Rs (args:=[.ptr 1196 0,.agg [U8 (IntKind.u8.wrap (5 - y77.2.Kind)),I64 y77.2.Box,I64 y77.2.Slot.G2,I64 y77.2.Slot.Tier,U8 y77.2.Slot.Half,I64 y77.2.G8]]) (L0:=[(1196,.box 97 (Ko s77)),(1197,TP 93 Slot.kv Box.av s77.on),(1198,TP 94 (fun n:Int=>Value.int .i64 n) Box.av s77.quay),(1199,TP 95 (fun n:Int=>Value.int .i64 n) I64 s77.open_)]) (Lr:=[(1196,.box 97 [E1 r80.2.ship.Columns,E7 r80.2.ship.Covers,I64 r80.2.ship.Light.Kilos,I64 r80.2.ship.Light.X,I64 r80.2.ship.Light.Y,I64 r80.2.ship.Light.Z,E3 r80.2.ship.Rows,E4 r80.2.ship.Frames,E5 r80.2.ship.Tanks,I64 r80.2.ship.G4.Tolerance,I64 r80.2.ship.G4.Trim,I64 r80.2.ship.G4.List_,I64 r80.2.ship.G4.Stability,.mp 1197,.mp 1198,.mp 1199,I64 r80.2.lifts]),(1197,TP 93 Slot.kv Box.av r80.2.on),(1198,TP 94 (fun n:Int=>Value.int .i64 n) Box.av r80.2.quay),(1199,TP 95 (fun n:Int=>Value.int .i64 n) I64 r80.2.open_)]) O (G9d s77 (Move.mk (IntKind.u8.wrap (5 - y77.2.Kind)) y77.2.Box y77.2.Slot y77.2.G8) r80 hr80) Hb0 ⟨.inl O,O,.inl O,O,G⟩ ⟨O,O,O,O,G⟩ O O O) O (JLh (BL (decide (r80.1≠0))) (Ge8 O O O) O (G5 (hK79 ?_)))
    refine JCc O h ?_ ?_<;>intro h hb
    ·
     refine Jr fun hK81=>(Ho (u:=.junk) (Hc (u:=BL false) (ds:=[BL false]) H58 O O O O O O O O) (G5 (hK81 ?_)))
     cases h
    ·
     refine Gr (e77 _ _ r80.2 (app1 hn77 h) ⟨G,⟨⟨_,rfl,.boxL rfl (.sm O O)⟩,⟨_,rfl,.map⟩,⟨_,rfl,.map⟩,⟨_,rfl,.map⟩,⟨_,rfl,.boxL rfl ⟨.same rfl,G⟩⟩,⟨_,rfl,.boxL rfl ⟨.same rfl,G⟩⟩,G⟩,rfl⟩)
   ·
    intro s77 h
    rw [List.length_map] at h
    replace h:=app1 hkx77 (Ja h (Nat.lt_irrefl _))
    refine hK66 (Jr fun hK82=>(JLh (.ptr 1196 0) (Hx Hw O O O O) O ?_))
    obtain⟨r83,hr83,h⟩:=Ga h
    refine JLh (E6 r83) (Y7 (args:=[.dptr (Gb.cs s77)]) (g:=Stowed.av) (r:=r83) O (G09.down s77 r83 hr83) G89 ⟨.ptrL O ⟨.data O O,.data O O,.data O O,.data O O,.data O O,.data O O,.data O O,.data O O,.data O O,.data O O,.data O O,.data O O,.data O O,.mp O,.mp O,.mp O,.data O O,G⟩,G⟩ (fun _=>O)) O (JLm (E6 r7.2.2.1) O ?_)
    obtain⟨r84,hr84,h⟩:=Ga h
    refine JLh (BL r84) (Gs O (Rv r83 r7.2.2.1 r84 hr84) Haf ⟨O,O,O,O,G⟩) O (JLm (BL r84) O (JLo (.ptr 1196 0) [] O .sct G (fun hc=>Hx Hw O O O O) O ?_))
    obtain⟨r85,hr85,h⟩:=Ga h
    refine JLo (E2 r85) [76] O .sct ⟨Ua,G⟩ (fun hc=>Y7 (args:=[.dptr (Gb.cs s77)]) (g:=I64) (r:=r85) O (G54 s77 r85 (H1 hc hr85)) H07 ⟨.ptrL O ⟨.data O O,.data O O,.data O O,.data O O,.data O O,.data O O,.data O O,.data O O,.data O O,.data O O,.data O O,.data O O,.data O O,.mp O,.mp O,.mp O,.data O O,G⟩,G⟩ (fun _=>O)) O (JLo (En r85.length) [77] O .sct ⟨Ua,G⟩ (fun hc=>G1a (f:=I64) (xs:=r85) Gx O O) O (JLo (BL (decide ((r85.length:Int)=0))) [78] O .sct ⟨Ua,G⟩ (fun hc=>Q0 O O O) O (JLh (BL (r84&&(decide ((r85.length:Int)=0)))) (Rm O O O O) O (JLm (BL (r84&&(decide ((r85.length:Int)=0)))) O (JLo (.ptr 1196 0) [] O .sct G (fun hc=>Hx Hw O O O O) O ?_)))))
    obtain⟨r86,hr86,h⟩:=Ga h
    refine JLo (I64 r86) [82] O .sct ⟨Ua,G⟩ (fun hc=>Z8 (args:=[.dptr (Gb.cs s77)]) O (G3c s77 r86 (H1 hc hr86)) H65 ⟨.ptrL O ⟨.data O O,.data O O,.data O O,.data O O,.data O O,.data O O,.data O O,.data O O,.data O O,.data O O,.data O O,.data O O,.data O O,.mp O,.mp O,.mp O,.data O O,G⟩,G⟩ O) O (JLo (I64 r65) [] O .sct G (fun hc=>G6 O O) O ?_)
    obtain⟨v87,hv87,h⟩:=Ga h
    refine JLo (I64 v87) [84] O .sct ⟨Ua,G⟩ (fun hc=>Jc2 (H29 (H1 hc hv87)) O O O) O (JLo (BL (decide (r86=v87))) [83,85] O .sct ⟨Ua,Ua,G⟩ (fun hc=>Q0 O O O) O (JLh (BL ((r84&&(decide ((r85.length:Int)=0)))&&(decide (r86=v87)))) (Rm O O O O) O (Ho (u:=.junk) (Hc (u:=BL ((r84&&(decide ((r85.length:Int)=0)))&&(decide (r86=v87)))) (ds:=[BL ((r84&&(decide ((r85.length:Int)=0)))&&(decide (r86=v87)))]) H58 O O O O O O O O) (G5 (hK82 (Gq (⟨[BL ((r84&&(decide ((r85.length:Int)=0)))&&(decide (r86=v87)))],[],G,O,⟨⟨_,⟨_,_,_,_,O,O,O,.inr ⟨Q1,O⟩⟩,.conv (.same O)⟩,G⟩,O,congrArg BL (Option.some.inj h)⟩)))))))
end
end Go.Proofs.YtidpfkmbfgihlaaGreat
