/-
 Models of functions of the program,and that they return what the models say.
-/
import Derived.Test.YtidpfkmbfgihlaaGreatSpecK
set_option maxRecDepth 100000
set_option maxHeartbeats 1000000
set_option linter.unusedVariables false
set_option linter.unusedSimpArgs false
namespace Go.Proofs.YtidpfkmbfgihlaaGreat
open Go.RowKit
noncomputable section
structure Move where
 Kind:Int
 Box:Int
 Slot:Slot
 G8:Int
 deriving DecidableEq,Inhabited
def Move.cs (x:Move):List AV:=[U8 x.Kind,I64 x.Box,I64 x.Slot.G2,I64 x.Slot.Tier,U8 x.Slot.Half,I64 x.G8]
def Move.av (x:Move):AV:=.agg x.cs
abbrev Ee (x:Move):AV:=.dptr (Move.cs x)
abbrev Ec:=LS 6 Move.av
namespace XTF
open XAF
open XCF
open XSF
open XKF
theorem G2c:Gf2 Eo 45 6=true:=by kernel_rfl
theorem Gd7:H7 Eo 130=true:=by kernel_rfl
theorem R52:H7 Eo 132=true:=by kernel_rfl
theorem Rcd:H7 Eo 35=true:=by kernel_rfl
theorem Rcc:H7 Eo 36=true:=by kernel_rfl
theorem Rcb:H7 Eo 37=true:=by kernel_rfl
theorem J69:H7 Eo 58=true:=by kernel_rfl
theorem J68:H7 Eo 73=true:=by kernel_rfl
theorem J67:H7 Eo 74=true:=by kernel_rfl
theorem Rb9:H7 Eo 77=true:=by kernel_rfl
theorem J66:H7 Eo 78=true:=by kernel_rfl
theorem Rb8:H7 Eo 79=true:=by kernel_rfl
theorem J65:H7 Eo 80=true:=by kernel_rfl
theorem H05:H7 Eo 81=true:=by kernel_rfl
theorem Rb7:H7 Eo 82=true:=by kernel_rfl
theorem Rb6:H7 Eo 83=true:=by kernel_rfl
theorem Q57:H7 Eo 84=true:=by kernel_rfl
theorem Rb5:H7 Eo 85=true:=by kernel_rfl
theorem Q56:H7 Eo 86=true:=by kernel_rfl
theorem Rb4:H7 Eo 87=true:=by kernel_rfl
theorem Rb3:H7 Eo 88=true:=by kernel_rfl
theorem Rb2:H7 Eo 89=true:=by kernel_rfl
theorem Rb1:H7 Eo 90=true:=by kernel_rfl
theorem Rb0:H7 Eo 91=true:=by kernel_rfl
theorem Raf:H7 Eo 92=true:=by kernel_rfl
theorem Rae:H7 Eo 93=true:=by kernel_rfl
theorem Rad:H7 Eo 94=true:=by kernel_rfl
theorem Q55:H7 Eo 95=true:=by kernel_rfl
theorem G74:Jj Eo 45 0 0=true:=by kernel_rfl
theorem Yf:Jj Eo 45 1 1=true:=by kernel_rfl
theorem Jv:Jj Eo 45 2 2=true:=by kernel_rfl
theorem Ry:Jj Eo 45 3 5=true:=by kernel_rfl
theorem G1c:Jj Eo 97 2 14=true:=by kernel_rfl
theorem Hw:Y4 Eo 39=true:=by kernel_rfl
theorem G2b:Yt Eo 3 1=true:=by kernel_rfl
theorem H58:Yt Eo 4 1=true:=by kernel_rfl
theorem Ra8:Y1 Eo 4 1=true:=by kernel_rfl
theorem J8c:(Eo.info? 60).bind (·.zero)=some (.agg #[E0,.string ByteArray.empty,.int .u8 0,.bool false,E0,E0,E0,.int .u8 0,.bool false]):=by kernel_rfl
end XTF
open XAF
open XCF
open XSF
open XKF
open XTF

def G14 (y:Slot) (p1:Gb) (p2:Move):Option Bool:=
 Yy p1.ship.Columns y.G2 fun y3=>
 bnd (bif y3.Deck then Yd p1.ship y.G2 else some default) fun r5=>
 some (y3.Deck&&(decide (r5=p2.G8)))
theorem J0b (y:Slot) (p1:Gb) (p2:Move) (r:Bool) (h:G14 y p1 p2=some r):Pure Eo 79 [.agg [I64 y.G2,I64 y.Tier,U8 y.Half],.dptr [.dptr (Gb.cs p1)],.dptr [U8 p2.Kind,I64 p2.Box,I64 p2.Slot.G2,I64 p2.Slot.Tier,U8 p2.Slot.Half,I64 p2.G8]] (·=BL r):=by
 unfold G14 at h
 refine Gy [.tmp 4] Tryz.func79 O O (Jr fun hK1=>(JLh (.ptr 1138 0) (Jk (cs:=[I64 y.G2,I64 y.Tier,U8 y.Half]) 1138 O O O O O) O (JLm (BL false) O (G5 (hK1 (Gm [(1,.dptr [.dptr (Gb.cs p1)]),(2,.dptr [U8 p2.Kind,I64 p2.Box,I64 p2.Slot.G2,I64 p2.Slot.Tier,U8 p2.Slot.Half,I64 p2.G8]),(3,.dptr [I64 y.G2,I64 y.Tier,U8 y.Half])] [] 1138 rfl rfl rfl G rfl (by exact⟨.conv (.same rfl),.conv (.same rfl),.ptr,G⟩) (Js fun hK2=>?_)))))))
 obtain⟨m4,y3,hm4,hy3,h⟩:=Y9 h
 obtain⟨r5,hr5,h⟩:=Ga h
 refine JC_d0 J0 (by kernel_rfl) (Dq (Ef p1) (Gg Hw O O O) O (Dq (Ef p1) (G68 O O) O (Dq (Ef p1) (G9 Rb O O O) O (Dq (Ef p1) (G9 Hv O O O) O (Dq (E1 p1.ship.Columns) (Gg J8 O O O) O (Dq (.dptr [I64 y.G2,I64 y.Tier,U8 y.Half]) (G9 Jc O O O) O (Dq (I64 y.G2) (Gg Gc O O O) O (Dq (Ej y3) (Hf (f:=G2.av) (xs:=p1.ship.Columns) (y:=y3) O O O Ht hy3 hm4) O (Dq (.dptr ((G2.cs y3).drop 2)) (G9 Ys O O O) O (Dq (BL y3.Deck) (Gg Q1 O O O) O (Dq (BL y3.Deck) (G6 O O) O (Do (Ef p1) [] O .sct G (fun hc=>Gg Hw O O O) O (Do (Ef p1) [16] O .sct ⟨Ua,G⟩ (fun hc=>G68 O O) O ?_)))))))))))))
 refine Do (Ef p1) [17] O .sct ⟨Ua,G⟩ (fun hc=>G9 Rb O O O) O (Do (.agg (Gk.cs p1.ship)) [18] O .sct ⟨Ua,G⟩ (fun hc=>Gi Hq O O O) O (Do (.dptr [I64 y.G2,I64 y.Tier,U8 y.Half]) [] O .sct G (fun hc=>G9 Jc O O O) O (Do (I64 y.G2) [20] O .sct ⟨Ua,G⟩ (fun hc=>Gg Gc O O O) O (Do (I64 r5) [19,21] O .sct ⟨Ua,Ua,G⟩ (fun hc=>Gs (args:=[.agg (Gk.cs p1.ship),I64 y.G2]) O (G56 p1.ship y.G2 r5 (H1 hc hr5)) H63 ⟨O,O,O,O,G⟩) O (Do (.dptr [I64 p2.G8]) [] O .sct G (fun hc=>G9 Ry O O O) O (Do (I64 p2.G8) [23] O .sct ⟨Ua,G⟩ (fun hc=>Gg Gc O O O) O (Do (BL (decide (r5=p2.G8))) [22,24] O .sct ⟨Ua,Ua,G⟩ (fun hc=>Q0 O O O) O (Dq (BL (y3.Deck&&(decide (r5=p2.G8)))) (Rm O O O O) O (Dq (BL (y3.Deck&&(decide (r5=p2.G8)))) (G7 O O) O (Dnil ?_))))))))))
 refine hK2 (Gq (fin1 BL h))

def G0a (p0:Bool) (p1:Gb) (p2:Move):Option Bool:=
 bnd (bif (!(!p0)) then Zz p1 (fun z0=>G14 z0 p1 p2) else some default) fun r3=>
 some ((!p0)||(!r3))
theorem J4e (p0:Bool) (p1:Gb) (p2:Move) (r:Bool) (h:G0a p0 p1 p2=some r):Pure Eo 77 [.dptr [BL p0],.dptr [.dptr (Gb.cs p1)],Ee p2] (·=BL r):=by
 unfold G0a at h
 refine Gy [.tmp 3] Tryz.func77 O O (Jr fun hK1=>(JLm (BL false) O (G5 (hK1 (Jr fun hK2=>(JLh (BL p0) (Gg Q1 O O O) O (JLh (BL (!p0)) (Qx (b:=p0) O O) O (JLm (BL (!p0)) O (JLo (Ef p1) [] O .scf G (fun hc=>Gg Hw O O O) O (JLo (.fn 79 [.dptr [.dptr (Gb.cs p1)],Ee p2]) [] O .scf G (fun hc=>Jy (cs:=[.dptr [.dptr (Gb.cs p1)],Ee p2]) O O) O ?_))))))))))
 obtain⟨r3,hr3,h⟩:=Ga h
 refine JLo (BL r3) [7,8] O .scf ⟨Ua,Ua,G⟩ (fun hc=>Gs (args:=[.dptr (Gb.cs p1),.fn 79 [.dptr [.dptr (Gb.cs p1)],Ee p2]]) O (H42.down p1 (fun z0=>G14 z0 p1 p2) 79 [.dptr [.dptr (Gb.cs p1)],Ee p2] Rb8 O (fun z0 q hq=>J0b z0 p1 p2 q hq) r3 (H1 hc hr3)) J66 ⟨O,O,O,O,G⟩) O (JLo (BL (!r3)) [9] O .scf ⟨Ua,G⟩ (fun hc=>Qx (b:=r3) O O) O (JLh (BL ((!p0)||(!r3))) (G28 O O O O) O (JLm (BL ((!p0)||(!r3))) O (G5 (hK2 (Gq (fin1 BL h)))))))

def G0e (m:Gb) (x:Move):Option (Int×Gb):=
 bnd (H37 ((((decide (x.Box=0))&&(decide (x.Slot=(Slot.mk 0 0 0))))&&(decide (0≤x.G8)))&&(decide (x.G8 < (m.ship.Covers.length:Int)))) 310) fun r5=>
 bnd (some (Gt.get m.open_ x.G8 0)) fun v6=>
 bnd (H37 (!((decide (0 < v6))==(decide (x.Kind=1)))) 311) fun r7=>
 bnd (H1c [(Z2 ((((decide (x.Box=0))&&(decide (x.Slot=(Slot.mk 0 0 0))))&&(decide (0≤x.G8)))&&(decide (x.G8 < (m.ship.Covers.length:Int)))),310),
  (Z2 (!((decide (0 < v6))==(decide (x.Kind=1)))),311),
  (G0a (decide (x.Kind=1)) m (Move.mk x.Kind x.Box x.Slot x.G8),312)]) fun r8=>
 bif decide (r8≠0) then
 (some (r8,m))
 else
 (jp (fun kj12=>
   bif decide (x.Kind=1) then
   (bnd (some (Gt.get m.open_ x.G8 0)) fun v14=>
    chk (v14+1) fun v15=>
    kj12 (Gb.mk m.ship m.on m.quay (Gt.put m.open_ x.G8 v15) m.lifts))
   else
   (kj12 (Gb.mk m.ship m.on m.quay (Gt.del m.open_ x.G8) m.lifts))) fun(j12:Gb)=>
  some (0,j12))
abbrev Eu (m:Gb):List AV:=[E1 m.ship.Columns,E7 m.ship.Covers,I64 m.ship.Light.Kilos,I64 m.ship.Light.X,I64 m.ship.Light.Y,I64 m.ship.Light.Z,E3 m.ship.Rows,E4 m.ship.Frames,E5 m.ship.Tanks,I64 m.ship.G4.Tolerance,I64 m.ship.G4.Trim,I64 m.ship.G4.List_,I64 m.ship.G4.Stability,.mp 1197,.mp 1198,.mp 1199,I64 m.lifts]
abbrev Ev (x:Move) (m:Gb):List AV:=[.dptr [BL ((((decide (x.Box=0))&&(decide (x.Slot=(Slot.mk 0 0 0))))&&(decide (0≤x.G8)))&&(decide (x.G8 < (m.ship.Covers.length:Int))))]]
abbrev Ew (x:Move):List AV:=[.dptr [BL (decide (x.Kind=1))],.ptr 1073 0,Ee x]
abbrev Ex (j12:Gb):List AV:=[E1 j12.ship.Columns,E7 j12.ship.Covers,I64 j12.ship.Light.Kilos,I64 j12.ship.Light.X,I64 j12.ship.Light.Y,I64 j12.ship.Light.Z,E3 j12.ship.Rows,E4 j12.ship.Frames,E5 j12.ship.Tanks,I64 j12.ship.G4.Tolerance,I64 j12.ship.G4.Trim,I64 j12.ship.G4.List_,I64 j12.ship.G4.Stability,.mp 1197,.mp 1198,.mp 1199,I64 j12.lifts]
theorem Jb5 (m:Gb) (x:Move) (r:Int×Gb) (h:G0e m x=some r):Jg Eo 35 [.ptr 1196 0,.agg (Move.cs x)] [(1196,.box 97 [E1 m.ship.Columns,E7 m.ship.Covers,I64 m.ship.Light.Kilos,I64 m.ship.Light.X,I64 m.ship.Light.Y,I64 m.ship.Light.Z,E3 m.ship.Rows,E4 m.ship.Frames,E5 m.ship.Tanks,I64 m.ship.G4.Tolerance,I64 m.ship.G4.Trim,I64 m.ship.G4.List_,I64 m.ship.G4.Stability,.mp 1197,.mp 1198,.mp 1199,I64 m.lifts]),(1197,TP 93 Slot.kv Box.av m.on),(1198,TP 94 (fun n:Int=>Value.int .i64 n) Box.av m.quay),(1199,TP 95 (fun n:Int=>Value.int .i64 n) I64 m.open_)] (fun av L'=>av=I64 r.1∧L'=[(1196,.box 97 [E1 r.2.ship.Columns,E7 r.2.ship.Covers,I64 r.2.ship.Light.Kilos,I64 r.2.ship.Light.X,I64 r.2.ship.Light.Y,I64 r.2.ship.Light.Z,E3 r.2.ship.Rows,E4 r.2.ship.Frames,E5 r.2.ship.Tanks,I64 r.2.ship.G4.Tolerance,I64 r.2.ship.G4.Trim,I64 r.2.ship.G4.List_,I64 r.2.ship.G4.Stability,.mp 1197,.mp 1198,.mp 1199,I64 r.2.lifts]),(1197,TP 93 Slot.kv Box.av r.2.on),(1198,TP 94 (fun n:Int=>Value.int .i64 n) Box.av r.2.quay),(1199,TP 95 (fun n:Int=>Value.int .i64 n) I64 r.2.open_)]):=by
 unfold G0e at h
 refine Q9 [1196,1197,1198,1199] [.tmp 4] Tryz.func35 O O (G4e O) (Jr fun hK1=>(JLh (.ptr 1073 0) (Jk (cs:=[.ptr 1196 0]) 1073 O O O O O) O (JLh (.ptr 1074 0) (Jk (cs:=[U8 x.Kind,I64 x.Box,I64 x.Slot.G2,I64 x.Slot.Tier,U8 x.Slot.Half,I64 x.G8]) 1074 O O O O O) O (JLm (I64 0) O (G5 (hK1 ?_))))))
 refine Gm [(2,.ptr 1073 0),(3,Ee x)] [(1196,.box 97 (Eu m)),(1197,TP 93 Slot.kv Box.av m.on),(1198,TP 94 (fun n:Int=>Value.int .i64 n) Box.av m.quay),(1199,TP 95 (fun n:Int=>Value.int .i64 n) I64 m.open_),(1073,.box 39 [.ptr 1196 0])] 1074 rfl rfl rfl ⟨⟨_,rfl,.boxEq rfl rfl⟩,⟨_,rfl,.map⟩,⟨_,rfl,.map⟩,⟨_,rfl,.map⟩,⟨_,rfl,.boxEq rfl rfl⟩,G⟩ rfl (by exact⟨.conv (.same rfl),.ptr,G⟩) ?_
 refine Jr fun hK2=>(JLh (Ee x) (G9 G74 O O O) O (JLh (U8 x.Kind) (Gg Hn O O O) O (JLh (BL (decide (x.Kind=1))) (Q0 O O O) O (JLh (.ptr 1075 0) (Hp 1075 1 Ra8 O O) O (Ho (u:=.junk) (Hc (u:=BL (decide (x.Kind=1))) (ds:=[BL (decide (x.Kind=1))]) H58 O O O O O O O O) (G5 (hK2 ?_)))))))
 refine Gm [(2,.ptr 1073 0),(3,Ee x),(5,.dptr [BL (decide (x.Kind=1))])] [(1196,.box 97 (Eu m)),(1197,TP 93 Slot.kv Box.av m.on),(1198,TP 94 (fun n:Int=>Value.int .i64 n) Box.av m.quay),(1199,TP 95 (fun n:Int=>Value.int .i64 n) I64 m.open_),(1073,.box 39 [.ptr 1196 0])] 1075 rfl rfl rfl ⟨⟨_,rfl,.boxEq rfl rfl⟩,⟨_,rfl,.map⟩,⟨_,rfl,.map⟩,⟨_,rfl,.map⟩,⟨_,rfl,.boxEq rfl rfl⟩,G⟩ rfl (by exact⟨.conv (.same rfl),.conv (.same rfl),.ptr,G⟩) ?_
 refine Jr fun hK3=>(JLh (.fn 77 (Ew x)) (Jy (cs:=(Ew x)) O O) O (JLm (.fn 77 (Ew x)) O (G5 (hK3 (Js fun hK4=>?_)))))
 refine Qc (l':=[(2,.ptr 1073 0),(3,Ee x),(5,.dptr [BL (decide (x.Kind=1))]),(6,.fn 77 (Ew x))]) (L':=[(1196,.box 97 (Eu m)),(1197,TP 93 Slot.kv Box.av m.on),(1198,TP 94 (fun n:Int=>Value.int .i64 n) Box.av m.quay),(1199,TP 95 (fun n:Int=>Value.int .i64 n) I64 m.open_),(1073,.box 39 [.ptr 1196 0])]) ⟨(.sm O O),⟨⟨_,rfl,.boxL rfl (.sm O O)⟩,⟨_,rfl,.map⟩,⟨_,rfl,.map⟩,⟨_,rfl,.map⟩,⟨_,rfl,.boxL rfl ⟨.same rfl,G⟩⟩,G⟩,rfl⟩ ?_
 obtain⟨r5,hr5,h⟩:=Ga h
 obtain⟨v6,hv6,h⟩:=Ga h
 obtain⟨r7,hr7,h⟩:=Ga h
 obtain⟨r8,hr8,h⟩:=Ga h
 refine J4 [39] [0,0,0,0,0,0,0,0,0,0,0,0,0,0,0,0,0,0,0,0,0,0,0,0,0,0,0,0,0,0,0,0,0,0,0,0,0,0,0,0,1,1] [0,0,0,0,0,0,0,0,0,0,0,0,0,0,0,0,0,0,0,0,0,0,0,0,0,0,0,0,0,0,0,0,0,0,0,0,0,0,0,0,1,1] [[(1196,.box 97 (Eu m)),(1197,TP 93 Slot.kv Box.av m.on),(1198,TP 94 (fun n:Int=>Value.int .i64 n) Box.av m.quay),(1199,TP 95 (fun n:Int=>Value.int .i64 n) I64 m.open_),(1073,.box 39 [.ptr 1196 0])],((1076,.box 148 [.fn 130 (Ev x m),I64 310,.fn 130 [.dptr [BL (!((decide (0 < v6))==(decide (x.Kind=1))))]],I64 311,.fn 77 (Ew x),I64 312])::[(1196,.box 97 (Eu m)),(1197,TP 93 Slot.kv Box.av m.on),(1198,TP 94 (fun n:Int=>Value.int .i64 n) Box.av m.quay),(1199,TP 95 (fun n:Int=>Value.int .i64 n) I64 m.open_),(1073,.box 39 [.ptr 1196 0])])] J0 (by kernel_rfl) rfl rfl ?_
 refine Gd (u:=.dptr ((Move.cs x).drop 1)) O O ⟨Ge (G9 Yf O O O) O,G⟩ (Gd (u:=I64 x.Box) O O ⟨Ge (Gg Gc O O O) O,G⟩ (Gd (u:=BL (decide (x.Box=0))) O O ⟨Ge (Q0 O O O) O,G⟩ (Gd (u:=BL (decide (x.Box=0))) O O ⟨Ge (G6 O O) O,G⟩ (Gd (u:=.opt (decide (x.Box=0)) (.dptr ((Move.cs x).drop 2))) O O ⟨H6 [] O O O .sct G (fun hc=>G9 Jv O O O) O,G⟩ (Gd (u:=.opt (decide (x.Box=0)) (.agg (Slot.cs x.Slot))) O O ⟨H6 [(16,.dptr ((Move.cs x).drop 2))] O O O .sct ⟨.all id,G⟩ (fun hc=>Gi Hu O O O) O,G⟩ (Gd (u:=.opt (decide (x.Box=0)) (.agg [I64 0,I64 0,U8 0])) O O ⟨H6 [] O O O .sct G (fun hc=>Hb (cs:=[I64 0,I64 0,U8 0]) [(0,1),(1,1),(2,1)] [I64 0,I64 0,U8 0] [E0,E0,.int .u8 0] Ga6 Gcd ⟨.inl O,.inl O,.inl O,G⟩ O O) O,G⟩ (Gd (u:=.opt (decide (x.Box=0)) (BL (decide (x.Slot=(Slot.mk 0 0 0))))) O O ⟨H6 [(17,.agg (Slot.cs x.Slot)),(18,.agg [I64 0,I64 0,U8 0])] O O O .sct ⟨.all id,.all id,G⟩ (fun hc=>R3a (vs:=[.int .i64 x.Slot.G2,.int .i64 x.Slot.Tier,.int .u8 x.Slot.Half]) (us:=[E0,E0,.int .u8 0]) 4 O (Y74 x.Slot (Slot.mk 0 0 0)) Q02 Qe2 O O O) O,G⟩ (Gd (u:=BL ((decide (x.Box=0))&&(decide (x.Slot=(Slot.mk 0 0 0))))) O O ⟨Ge (Rm O O O O) O,G⟩ (Gd (u:=BL ((decide (x.Box=0))&&(decide (x.Slot=(Slot.mk 0 0 0))))) O O ⟨Ge (G6 O O) O,G⟩ (Gd (u:=.opt ((decide (x.Box=0))&&(decide (x.Slot=(Slot.mk 0 0 0)))) (.dptr [I64 x.G8])) O O ⟨H6 [] O O O .sct G (fun hc=>G9 Ry O O O) O,G⟩ (Gd (u:=.opt ((decide (x.Box=0))&&(decide (x.Slot=(Slot.mk 0 0 0)))) (I64 x.G8)) O O ⟨H6 [(22,.dptr [I64 x.G8])] O O O .sct ⟨.all id,G⟩ (fun hc=>Gg Gc O O O) O,G⟩ (Gd (u:=.opt ((decide (x.Box=0))&&(decide (x.Slot=(Slot.mk 0 0 0)))) (BL (decide (0≤x.G8)))) O O ⟨H6 [(23,I64 x.G8)] O O O .sct ⟨.all id,G⟩ (fun hc=>Gfb O O O) O,G⟩ (Gd (u:=BL (((decide (x.Box=0))&&(decide (x.Slot=(Slot.mk 0 0 0))))&&(decide (0≤x.G8)))) O O ⟨Ge (Rm O O O O) O,G⟩ ?_)))))))))))))
 refine Gd (u:=BL (((decide (x.Box=0))&&(decide (x.Slot=(Slot.mk 0 0 0))))&&(decide (0≤x.G8)))) O O ⟨Ge (G6 O O) O,G⟩ (Gd (u:=.opt (((decide (x.Box=0))&&(decide (x.Slot=(Slot.mk 0 0 0))))&&(decide (0≤x.G8))) (.dptr [I64 x.G8])) O O ⟨H6 [] O O O .sct G (fun hc=>G9 Ry O O O) O,G⟩ (Gd (u:=.opt (((decide (x.Box=0))&&(decide (x.Slot=(Slot.mk 0 0 0))))&&(decide (0≤x.G8))) (I64 x.G8)) O O ⟨H6 [(27,.dptr [I64 x.G8])] O O O .sct ⟨.all id,G⟩ (fun hc=>Gg Gc O O O) O,G⟩ (Gd (u:=.opt (((decide (x.Box=0))&&(decide (x.Slot=(Slot.mk 0 0 0))))&&(decide (0≤x.G8))) (.ptr 1196 0)) O O ⟨H6 [] O O O .sct G (fun hc=>Hx Hw O O O O) O,G⟩ (Gd (u:=.opt (((decide (x.Box=0))&&(decide (x.Slot=(Slot.mk 0 0 0))))&&(decide (0≤x.G8))) (.ptr 1196 0)) O O ⟨H6 [(29,.ptr 1196 0)] O O O .sct ⟨.all id,G⟩ (fun hc=>Rk O O) O,G⟩ (Gd (u:=.opt (((decide (x.Box=0))&&(decide (x.Slot=(Slot.mk 0 0 0))))&&(decide (0≤x.G8))) (.ptr 1196 0)) O O ⟨H6 [(30,.ptr 1196 0)] O O O .sct ⟨.all id,G⟩ (fun hc=>Hh Rb O O) O,G⟩ (Gd (u:=.opt (((decide (x.Box=0))&&(decide (x.Slot=(Slot.mk 0 0 0))))&&(decide (0≤x.G8))) (.ptr 1196 1)) O O ⟨H6 [(31,.ptr 1196 0)] O O O .sct ⟨.all id,G⟩ (fun hc=>Hh Jo O O) O,G⟩ (Gd (u:=.opt (((decide (x.Box=0))&&(decide (x.Slot=(Slot.mk 0 0 0))))&&(decide (0≤x.G8))) (E7 m.ship.Covers)) O O ⟨H6 [(32,.ptr 1196 1)] O O O .sct ⟨.all id,G⟩ (fun hc=>Hx Qa O O O O) O,G⟩ (Gd (u:=.opt (((decide (x.Box=0))&&(decide (x.Slot=(Slot.mk 0 0 0))))&&(decide (0≤x.G8))) (En m.ship.Covers.length)) O O ⟨H6 [(33,E7 m.ship.Covers)] O O O .sct ⟨.all id,G⟩ (fun hc=>G1a (f:=G8.av) (xs:=m.ship.Covers) Ji O O) O,G⟩ (Gd (u:=.opt (((decide (x.Box=0))&&(decide (x.Slot=(Slot.mk 0 0 0))))&&(decide (0≤x.G8))) (BL (decide (x.G8 < (m.ship.Covers.length:Int))))) O O ⟨H6 [(28,I64 x.G8),(34,En m.ship.Covers.length)] O O O .sct ⟨.all id,.all id,G⟩ (fun hc=>Qg O O O) O,G⟩ (Gd (u:=BL ((((decide (x.Box=0))&&(decide (x.Slot=(Slot.mk 0 0 0))))&&(decide (0≤x.G8)))&&(decide (x.G8 < (m.ship.Covers.length:Int))))) O O ⟨Ge (Rm O O O O) O,G⟩ (Gd (u:=.agg [.fn 130 (Ev x m),I64 310]) O O ⟨Ge (Gs O (H11 ((((decide (x.Box=0))&&(decide (x.Slot=(Slot.mk 0 0 0))))&&(decide (0≤x.G8)))&&(decide (x.G8 < (m.ship.Covers.length:Int)))) 310 r5 hr5) H05 ⟨O,O,O,O,G⟩) O,G⟩ (Gd (u:=.ptr 1196 0) O O ⟨Ge (Hx Hw O O O O) O,G⟩ (Gd (u:=.ptr 1196 0) O O ⟨Ge (Rk O O) O,G⟩ ?_)))))))))))))
 refine Gd (u:=.ptr 1196 15) O O ⟨Ge (Hh G71 O O) O,G⟩ (Gd (u:=.mp 1199) O O ⟨Ge (Hx G5e O O O O) O,G⟩ (Gd (u:=.dptr [I64 x.G8]) O O ⟨Ge (G9 Ry O O O) O,G⟩ (Gd (u:=I64 x.G8) O O ⟨Ge (Gg Gc O O O) O,G⟩ (Gd (u:=I64 v6) O O ⟨Ge (((Option.some.inj hv6) ▸ J84 (av:=I64) (m:=m.open_) (a:=x.G8) 0 E0 (fun _=>O) O (.own O) O Q44 H5a H4c O)) O,G⟩ (Gd (u:=BL (decide (0 < v6))) O O ⟨Ge (Gb9 O O O) O,G⟩ (Gd (u:=BL (decide (x.Kind=1))) O O ⟨Ge (Gg Q1 O O O) O,G⟩ (Gd (u:=BL (!((decide (0 < v6))==(decide (x.Kind=1))))) O O ⟨Ge (R9b H5b O O O) O,G⟩ (Gd (u:=.agg [.fn 130 [.dptr [BL (!((decide (0 < v6))==(decide (x.Kind=1))))]],I64 311]) O O ⟨Ge (Gs O (H11 (!((decide (0 < v6))==(decide (x.Kind=1)))) 311 r7 hr7) H05 ⟨O,O,O,O,G⟩) O,G⟩ (Gd (u:=.fn 77 (Ew x)) O O ⟨Ge (G6 O O) O,G⟩ (Gd (u:=.agg [.fn 77 (Ew x),I64 312]) O O ⟨Ge (Hb (cs:=[.fn 77 (Ew x),I64 312]) [(0,1),(1,1)] [.sc .nilFunc,I64 0] [.nilFunc,E0] Zw G1b ⟨.inl O,.inl O,G⟩ O O) O,G⟩ (D_w (u:=.ms 1076 0 3 3) O O O O (Ge (Jeb 1076 (xs:=[.agg [.fn 130 (Ev x m),I64 310],.agg [.fn 130 [.dptr [BL (!((decide (0 < v6))==(decide (x.Kind=1))))]],I64 311],.agg [.fn 77 (Ew x),I64 312]]) (cs:=[.fn 130 (Ev x m),I64 310,.fn 130 [.dptr [BL (!((decide (0 < v6))==(decide (x.Kind=1))))]],I64 311,.fn 77 (Ew x),I64 312]) O ⟨O,O,O,G⟩ O Gea H4d O O O O O) O) ?_)))))))))))
 refine Gd (u:=I64 r8) O O ⟨Ge (Z8 O (Q93.down [J5.mk 130 (Ev x m) (Z2 ((((decide (x.Box=0))&&(decide (x.Slot=(Slot.mk 0 0 0))))&&(decide (0≤x.G8)))&&(decide (x.G8 < (m.ship.Covers.length:Int))))) 310 Gd7 O (fun q hq=>Gb0 ((((decide (x.Box=0))&&(decide (x.Slot=(Slot.mk 0 0 0))))&&(decide (0≤x.G8)))&&(decide (x.G8 < (m.ship.Covers.length:Int)))) q hq),
 J5.mk 130 [.dptr [BL (!((decide (0 < v6))==(decide (x.Kind=1))))]] (Z2 (!((decide (0 < v6))==(decide (x.Kind=1))))) 311 Gd7 rfl (fun q hq=>Gb0 (!((decide (0 < v6))==(decide (x.Kind=1)))) q hq),
 J5.mk 77 [.dptr [BL (decide (x.Kind=1))],.dptr [.dptr (Gb.cs m)],Ee x] (G0a (decide (x.Kind=1)) m (Move.mk x.Kind x.Box x.Slot x.G8)) 312 Rb9 rfl (fun q hq=>J4e (decide (x.Kind=1)) m (Move.mk x.Kind x.Box x.Slot x.G8) q hq)] r8 hr8) J65 ⟨.msL rfl rfl rfl ⟨.data rfl rfl,.data rfl rfl,.data rfl rfl,.data rfl rfl,.fnL ⟨.data rfl rfl,.ptrL rfl ⟨.ptrL rfl ⟨.data rfl rfl,.data rfl rfl,.data rfl rfl,.data rfl rfl,.data rfl rfl,.data rfl rfl,.data rfl rfl,.data rfl rfl,.data rfl rfl,.data rfl rfl,.data rfl rfl,.data rfl rfl,.data rfl rfl,.mp rfl,.mp rfl,.mp rfl,.data rfl rfl,trivial⟩,trivial⟩,.data rfl rfl,trivial⟩,.data rfl rfl,trivial⟩,trivial⟩ rfl) rfl,trivial⟩ ?_ rfl
 refine Gd (u:=I64 r8) O O ⟨Ge (G7 O O) O,G⟩ (Qw (hK4 (Js fun hK9=>Jr fun hK10=>(JLm (I64 r8) O (JLh (BL (decide (r8≠0))) (Ge8 O O O) O (G5 (hK10 (JCc O h (fun h hb=>?_) (fun h hb=>?_)))))))))
 ·
  refine Jr fun hK11=>(JLm (I64 r8) O (JLm (I64 r8) O (G5 (hK11 (Gq ?_)))))
  obtain rfl:=Option.some.inj h
  exact⟨[I64 r8],[(1196,.box 97 (Eu m)),(1197,TP 93 Slot.kv Box.av m.on),(1198,TP 94 (fun n:Int=>Value.int .i64 n) Box.av m.quay),(1199,TP 95 (fun n:Int=>Value.int .i64 n) I64 m.open_)],⟨⟨_,rfl,.boxL rfl (.sm O O)⟩,⟨_,rfl,.map⟩,⟨_,rfl,.map⟩,⟨_,rfl,.map⟩,G⟩,rfl,⟨⟨_,rfl,.conv (.same rfl)⟩,G⟩,rfl,rfl⟩
 ·
  refine Gr (hK9 ?_)
  obtain⟨kj12,hkj12,h⟩:=Yu h
  refine Rg (fun j12:Gb=>kj12 j12=some r) (fun j12=>[]) (fun j12=>[(1196,.box 97 (Ex j12)),(1197,TP 93 Slot.kv Box.av j12.on),(1198,TP 94 (fun n:Int=>Value.int .i64 n) Box.av j12.quay),(1199,TP 95 (fun n:Int=>Value.int .i64 n) I64 j12.open_),(1073,.box 39 [.ptr 1196 0]),(1076,.box 148 [.fn 130 (Ev x m),I64 310,.fn 130 [.dptr [BL (!((decide (0 < v6))==(decide (x.Kind=1))))]],I64 311,.fn 77 (Ew x),I64 312])]) (fun Kj12 ej12=>?_) ?_
  ·
   refine Jr fun hK13=>(JLh (BL (decide (x.Kind=1))) (Gg Q1 O O O) O (G5 (hK13 (JCc O h (fun h hb=>?_) (fun h hb=>?_)))))
   ·
    refine Qc (l':=[(2,.ptr 1073 0),(3,Ee x)]) (L':=[(1196,.box 97 (Eu m)),(1197,TP 93 Slot.kv Box.av m.on),(1198,TP 94 (fun n:Int=>Value.int .i64 n) Box.av m.quay),(1199,TP 95 (fun n:Int=>Value.int .i64 n) I64 m.open_),(1073,.box 39 [.ptr 1196 0]),(1076,.box 148 [.fn 130 (Ev x m),I64 310,.fn 130 [.dptr [BL (!((decide (0 < v6))==(decide (x.Kind=1))))]],I64 311,.fn 77 (Ew x),I64 312])]) ⟨(.sm O O),⟨⟨_,rfl,.boxL rfl (.sm O O)⟩,⟨_,rfl,.map⟩,⟨_,rfl,.map⟩,⟨_,rfl,.map⟩,⟨_,rfl,.boxL rfl ⟨.same rfl,G⟩⟩,⟨_,rfl,.boxL rfl (.sm O O)⟩,G⟩,rfl⟩ ?_
    obtain⟨v14,hv14,h⟩:=Ga h
    obtain⟨v15,hv15,h⟩:=Jd h
    refine J4 [8] [0,0,0,0,0,0,0,0,0] [0,0,0,0,0,0,0,0,0] [[(1196,.box 97 (Eu m)),(1197,TP 93 Slot.kv Box.av m.on),(1198,TP 94 (fun n:Int=>Value.int .i64 n) Box.av m.quay),(1199,TP 95 (fun n:Int=>Value.int .i64 n) I64 m.open_),(1073,.box 39 [.ptr 1196 0]),(1076,.box 148 [.fn 130 (Ev x m),I64 310,.fn 130 [.dptr [BL (!((decide (0 < v6))==(decide (x.Kind=1))))]],I64 311,.fn 77 (Ew x),I64 312])],((1199,TP 95 (fun n:Int=>Value.int .i64 n) I64 (Gt.put m.open_ x.G8 v15))::[(1196,.box 97 (Eu m)),(1197,TP 93 Slot.kv Box.av m.on),(1198,TP 94 (fun n:Int=>Value.int .i64 n) Box.av m.quay),(1199,TP 95 (fun n:Int=>Value.int .i64 n) I64 m.open_),(1073,.box 39 [.ptr 1196 0]),(1076,.box 148 [.fn 130 (Ev x m),I64 310,.fn 130 [.dptr [BL (!((decide (0 < v6))==(decide (x.Kind=1))))]],I64 311,.fn 77 (Ew x),I64 312])])] J0 (by kernel_rfl) rfl rfl ?_
    refine Gd (u:=.ptr 1196 0) O O ⟨Ge (Hx Hw O O O O) O,G⟩ (Gd (u:=.ptr 1196 0) O O ⟨Ge (Rk O O) O,G⟩ (Gd (u:=.ptr 1196 15) O O ⟨Ge (Hh G71 O O) O,G⟩ (Gd (u:=.mp 1199) O O ⟨Ge (Hx G5e O O O O) O,G⟩ (Gd (u:=.dptr [I64 x.G8]) O O ⟨Ge (G9 Ry O O O) O,G⟩ (Gd (u:=I64 x.G8) O O ⟨Ge (Gg Gc O O O) O,G⟩ (Gd (u:=I64 v14) O O ⟨Ge (((Option.some.inj hv14) ▸ J84 (av:=I64) (m:=m.open_) (a:=x.G8) 0 E0 (fun _=>O) O (.own O) O Q44 H5a H4c O)) O,G⟩ (Gd (u:=I64 v15) O O ⟨Ge (Jf hv15 O O O) O,G⟩ (H85 (u:=.junk) O O O O (Ge (G69 (m:=m.open_) (a:=x.G8) (v:=v15) (fun _=>O) O O O O O O Q44 H5a) O) (Qw ?_)))))))))
    exact ej12 _ _ (Gb.mk m.ship m.on m.quay (Gt.put m.open_ x.G8 v15) m.lifts) h ⟨G,⟨⟨_,rfl,.boxL rfl (.sm O O)⟩,⟨_,rfl,.map⟩,⟨_,rfl,.map⟩,⟨_,rfl,.map⟩,⟨_,rfl,.boxL rfl ⟨.same rfl,G⟩⟩,⟨_,rfl,.boxL rfl (.sm O O)⟩,G⟩,rfl⟩
   ·
    refine Qc (l':=[(2,.ptr 1073 0),(3,Ee x)]) (L':=[(1196,.box 97 (Eu m)),(1197,TP 93 Slot.kv Box.av m.on),(1198,TP 94 (fun n:Int=>Value.int .i64 n) Box.av m.quay),(1199,TP 95 (fun n:Int=>Value.int .i64 n) I64 m.open_),(1073,.box 39 [.ptr 1196 0]),(1076,.box 148 [.fn 130 (Ev x m),I64 310,.fn 130 [.dptr [BL (!((decide (0 < v6))==(decide (x.Kind=1))))]],I64 311,.fn 77 (Ew x),I64 312])]) ⟨(.sm O O),⟨⟨_,rfl,.boxL rfl (.sm O O)⟩,⟨_,rfl,.map⟩,⟨_,rfl,.map⟩,⟨_,rfl,.map⟩,⟨_,rfl,.boxL rfl ⟨.same rfl,G⟩⟩,⟨_,rfl,.boxL rfl (.sm O O)⟩,G⟩,rfl⟩ ?_
    refine J4 [6] [0,0,0,0,0,0,0] [0,0,0,0,0,0,0] [[(1196,.box 97 (Eu m)),(1197,TP 93 Slot.kv Box.av m.on),(1198,TP 94 (fun n:Int=>Value.int .i64 n) Box.av m.quay),(1199,TP 95 (fun n:Int=>Value.int .i64 n) I64 m.open_),(1073,.box 39 [.ptr 1196 0]),(1076,.box 148 [.fn 130 (Ev x m),I64 310,.fn 130 [.dptr [BL (!((decide (0 < v6))==(decide (x.Kind=1))))]],I64 311,.fn 77 (Ew x),I64 312])],((1199,TP 95 (fun n:Int=>Value.int .i64 n) I64 (Gt.del m.open_ x.G8))::[(1196,.box 97 (Eu m)),(1197,TP 93 Slot.kv Box.av m.on),(1198,TP 94 (fun n:Int=>Value.int .i64 n) Box.av m.quay),(1199,TP 95 (fun n:Int=>Value.int .i64 n) I64 m.open_),(1073,.box 39 [.ptr 1196 0]),(1076,.box 148 [.fn 130 (Ev x m),I64 310,.fn 130 [.dptr [BL (!((decide (0 < v6))==(decide (x.Kind=1))))]],I64 311,.fn 77 (Ew x),I64 312])])] J0 (by kernel_rfl) rfl rfl ?_
    refine Gd (u:=.ptr 1196 0) O O ⟨Ge (Hx Hw O O O O) O,G⟩ (Gd (u:=.ptr 1196 0) O O ⟨Ge (Rk O O) O,G⟩ (Gd (u:=.ptr 1196 15) O O ⟨Ge (Hh G71 O O) O,G⟩ (Gd (u:=.mp 1199) O O ⟨Ge (Hx G5e O O O O) O,G⟩ (Gd (u:=.dptr [I64 x.G8]) O O ⟨Ge (G9 Ry O O O) O,G⟩ (Gd (u:=I64 x.G8) O O ⟨Ge (Gg Gc O O O) O,G⟩ (H85 (u:=.tup []) O O O O (Ge (Hf9 (m:=m.open_) (a:=x.G8) (fun _=>O) O O O O Q44 H5a) O) (Qw (ej12 _ _ (Gb.mk m.ship m.on m.quay (Gt.del m.open_ x.G8) m.lifts) h ⟨G,⟨⟨_,rfl,.boxL rfl (.sm O O)⟩,⟨_,rfl,.map⟩,⟨_,rfl,.map⟩,⟨_,rfl,.map⟩,⟨_,rfl,.boxL rfl ⟨.same rfl,G⟩⟩,⟨_,rfl,.boxL rfl (.sm O O)⟩,G⟩,rfl⟩))))))))
  ·intro j12 h
   replace h:=app1 hkj12 h
   refine Jr fun hK16=>(JLm (I64 0) O (G5 (hK16 (Gq ?_))))
   obtain rfl:=Option.some.inj h
   exact⟨[I64 0],[(1196,.box 97 (Ex j12)),(1197,TP 93 Slot.kv Box.av j12.on),(1198,TP 94 (fun n:Int=>Value.int .i64 n) Box.av j12.quay),(1199,TP 95 (fun n:Int=>Value.int .i64 n) I64 j12.open_)],⟨⟨_,rfl,.boxL rfl (.sm O O)⟩,⟨_,rfl,.map⟩,⟨_,rfl,.map⟩,⟨_,rfl,.map⟩,G⟩,rfl,⟨⟨_,rfl,.conv (.same rfl)⟩,G⟩,rfl,rfl⟩

def G3b (y:Slot) (p1:Move):Option Bool:=
 bnd (Ge3 y p1.Slot) fun r3=>
 some r3
theorem J4d (y:Slot) (p1:Move) (r:Bool) (h:G3b y p1=some r):Pure Eo 83 [.agg [I64 y.G2,I64 y.Tier,U8 y.Half],Ee p1] (·=BL r):=by
 unfold G3b at h
 refine Gy [.tmp 3] Tryz.func83 O O (Jr fun hK1=>(JLh (.ptr 1142 0) (Jk (cs:=[I64 y.G2,I64 y.Tier,U8 y.Half]) 1142 O O O O O) O (JLm (BL false) O (G5 (hK1 (Gm [(1,Ee p1),(2,.dptr [I64 y.G2,I64 y.Tier,U8 y.Half])] [] 1142 rfl rfl rfl G rfl (by exact⟨.conv (.same rfl),.ptr,G⟩) (Jr fun hK2=>(JLh (.agg [I64 y.G2,I64 y.Tier,U8 y.Half]) (Gi Hu O O O) O (JLh (.dptr ((Move.cs p1).drop 2)) (G9 Jv O O O) O (JLh (.agg (Slot.cs p1.Slot)) (Gi Hu O O O) O ?_))))))))))
 obtain⟨r3,hr3,h⟩:=Ga h
 refine JLh (BL r3) (Gs O (J5e y p1.Slot r3 hr3) Q57 ⟨O,O,O,O,G⟩) O (JLm (BL r3) O (G5 (hK2 (Gq (fin1 BL h)))))

def G6d (p0:Gb) (p1:Move):Option Bool:=
 bnd (Zz p0 (fun z0=>G3b z0 p1)) fun r3=>
 some (!r3)
theorem Jb4 (p0:Gb) (p1:Move) (r:Bool) (h:G6d p0 p1=some r):Pure Eo 82 [.dptr [.dptr (Gb.cs p0)],Ee p1] (·=BL r):=by
 unfold G6d at h
 refine Gy [.tmp 2] Tryz.func82 O O (Jr fun hK1=>(JLm (BL false) O (G5 (hK1 (Jr fun hK2=>(JLh (Ef p0) (Gg Hw O O O) O (JLh (.fn 83 [.dptr (Move.cs p1)]) (Jy (cs:=[.dptr (Move.cs p1)]) O O) O ?_)))))))
 obtain⟨r3,hr3,h⟩:=Ga h
 refine JLh (BL r3) (Gs O (H42.down p0 (fun z0=>G3b z0 p1) 83 [.dptr (Move.cs p1)] Rb6 O (fun z0 q hq=>J4d z0 p1 q hq) r3 hr3) J66 ⟨O,O,O,O,G⟩) O (JLh (BL (!r3)) (Qx (b:=r3) O O) O (JLm (BL (!r3)) O (G5 (hK2 (Gq (fin1 BL h))))))

def G6c (p0:Gb) (p1:Move):Option Bool:=
 Yy p0.ship.Columns p1.Slot.G2 fun y3=>
 bnd (bif (!y3.Deck) then G52 p0 p1.Slot else some default) fun r5=>
 some (y3.Deck||(!r5))
theorem Jb3 (p0:Gb) (p1:Move) (r:Bool) (h:G6c p0 p1=some r):Pure Eo 85 [.dptr [.dptr (Gb.cs p0)],Ee p1] (·=BL r):=by
 unfold G6c at h
 refine Gy [.tmp 2] Tryz.func85 O O (Jr fun hK1=>(JLm (BL false) O (G5 (hK1 (Js fun hK2=>?_)))))
 obtain⟨m4,y3,hm4,hy3,h⟩:=Y9 h
 obtain⟨r5,hr5,h⟩:=Ga h
 refine JC_d0 J0 (by kernel_rfl) (Dq (Ef p0) (Gg Hw O O O) O (Dq (Ef p0) (G68 O O) O (Dq (Ef p0) (G9 Rb O O O) O (Dq (Ef p0) (G9 Hv O O O) O (Dq (E1 p0.ship.Columns) (Gg J8 O O O) O (Dq (.dptr ((Move.cs p1).drop 2)) (G9 Jv O O O) O (Dq (.dptr ((Move.cs p1).drop 2)) (G9 Jc O O O) O (Dq (I64 p1.Slot.G2) (Gg Gc O O O) O (Dq (Ej y3) (Hf (f:=G2.av) (xs:=p0.ship.Columns) (y:=y3) O O O Ht hy3 hm4) O (Dq (.dptr ((G2.cs y3).drop 2)) (G9 Ys O O O) O (Dq (BL y3.Deck) (Gg Q1 O O O) O (Dq (BL y3.Deck) (G6 O O) O (Do (Ef p0) [] O .scf G (fun hc=>Gg Hw O O O) O ?_)))))))))))))
 refine Do (.dptr ((Move.cs p1).drop 2)) [] O .scf G (fun hc=>G9 Jv O O O) O (Do (.agg (Slot.cs p1.Slot)) [16] O .scf ⟨Ua,G⟩ (fun hc=>Gi Hu O O O) O (Do (BL r5) [15,17] O .scf ⟨Ua,Ua,G⟩ (fun hc=>Gs (args:=[.dptr (Gb.cs p0),.agg (Slot.cs p1.Slot)]) O (Hc0 p0 p1.Slot r5 (H1 hc hr5)) Q56 ⟨O,O,O,O,G⟩) O (Do (BL (!r5)) [18] O .scf ⟨Ua,G⟩ (fun hc=>Qx (b:=r5) O O) O (Dq (BL (y3.Deck||(!r5))) (G28 O O O O) O (Dq (BL (y3.Deck||(!r5))) (G7 O O) O (Dnil (hK2 (Gq (fin1 BL h)))))))))

def Gc7 (m:Gb) (x:Move):Option (Int×Gb):=
 bnd (some (Gt.get m.on x.Slot (Box.mk 0 ByteArray.empty 0 false 0 0 0 0 false))) fun v3=>
 bnd (H37 (decide (x.G8=0)) 310) fun r5=>
 bnd (H37 ((Gt.has m.on x.Slot)&&(decide (v3.ID=x.Box))) 313) fun r6=>
 bnd (H1c [(Z2 (decide (x.G8=0)),310),
  (Z2 ((Gt.has m.on x.Slot)&&(decide (v3.ID=x.Box))),313),
  (G6d m (Move.mk x.Kind x.Box x.Slot x.G8),314),
  (G6c m (Move.mk x.Kind x.Box x.Slot x.G8),315)]) fun r7=>
 bif decide (r7≠0) then
 (some (r7,m))
 else
 (chk (m.lifts+1) fun v14=>
  some (0,(Gb.mk m.ship (Gt.del m.on x.Slot) (Gt.put m.quay v3.ID v3) m.open_ v14)))
abbrev Ey (m:Gb):List AV:=[E1 m.ship.Columns,E7 m.ship.Covers,I64 m.ship.Light.Kilos,I64 m.ship.Light.X,I64 m.ship.Light.Y,I64 m.ship.Light.Z,E3 m.ship.Rows,E4 m.ship.Frames,E5 m.ship.Tanks,I64 m.ship.G4.Tolerance,I64 m.ship.G4.Trim,I64 m.ship.G4.List_,I64 m.ship.G4.Stability,.mp 1197,.mp 1198,.mp 1199,I64 m.lifts]
theorem Q2c (m:Gb) (x:Move) (r:Int×Gb) (h:Gc7 m x=some r):Jg Eo 36 [.ptr 1196 0,.agg (Move.cs x)] [(1196,.box 97 [E1 m.ship.Columns,E7 m.ship.Covers,I64 m.ship.Light.Kilos,I64 m.ship.Light.X,I64 m.ship.Light.Y,I64 m.ship.Light.Z,E3 m.ship.Rows,E4 m.ship.Frames,E5 m.ship.Tanks,I64 m.ship.G4.Tolerance,I64 m.ship.G4.Trim,I64 m.ship.G4.List_,I64 m.ship.G4.Stability,.mp 1197,.mp 1198,.mp 1199,I64 m.lifts]),(1197,TP 93 Slot.kv Box.av m.on),(1198,TP 94 (fun n:Int=>Value.int .i64 n) Box.av m.quay),(1199,TP 95 (fun n:Int=>Value.int .i64 n) I64 m.open_)] (fun av L'=>av=I64 r.1∧L'=[(1196,.box 97 [E1 r.2.ship.Columns,E7 r.2.ship.Covers,I64 r.2.ship.Light.Kilos,I64 r.2.ship.Light.X,I64 r.2.ship.Light.Y,I64 r.2.ship.Light.Z,E3 r.2.ship.Rows,E4 r.2.ship.Frames,E5 r.2.ship.Tanks,I64 r.2.ship.G4.Tolerance,I64 r.2.ship.G4.Trim,I64 r.2.ship.G4.List_,I64 r.2.ship.G4.Stability,.mp 1197,.mp 1198,.mp 1199,I64 r.2.lifts]),(1197,TP 93 Slot.kv Box.av r.2.on),(1198,TP 94 (fun n:Int=>Value.int .i64 n) Box.av r.2.quay),(1199,TP 95 (fun n:Int=>Value.int .i64 n) I64 r.2.open_)]):=by
 unfold Gc7 at h
 refine Q9 [1196,1197,1198,1199] [.tmp 4] Tryz.func36 O O (G4e O) (Jr fun hK1=>(JLh (.ptr 1077 0) (Jk (cs:=[.ptr 1196 0]) 1077 O O O O O) O (JLh (.ptr 1078 0) (Jk (cs:=[U8 x.Kind,I64 x.Box,I64 x.Slot.G2,I64 x.Slot.Tier,U8 x.Slot.Half,I64 x.G8]) 1078 O O O O O) O (JLm (I64 0) O (G5 (hK1 ?_))))))
 refine Gm [(2,.ptr 1077 0),(3,Ee x)] [(1196,.box 97 (Ey m)),(1197,TP 93 Slot.kv Box.av m.on),(1198,TP 94 (fun n:Int=>Value.int .i64 n) Box.av m.quay),(1199,TP 95 (fun n:Int=>Value.int .i64 n) I64 m.open_),(1077,.box 39 [.ptr 1196 0])] 1078 rfl rfl rfl ⟨⟨_,rfl,.boxEq rfl rfl⟩,⟨_,rfl,.map⟩,⟨_,rfl,.map⟩,⟨_,rfl,.map⟩,⟨_,rfl,.boxEq rfl rfl⟩,G⟩ rfl (by exact⟨.conv (.same rfl),.ptr,G⟩) ?_
 refine Js fun hK2=>?_
 refine Qc (l':=[(2,.ptr 1077 0),(3,Ee x)]) (L':=[(1196,.box 97 (Ey m)),(1197,TP 93 Slot.kv Box.av m.on),(1198,TP 94 (fun n:Int=>Value.int .i64 n) Box.av m.quay),(1199,TP 95 (fun n:Int=>Value.int .i64 n) I64 m.open_),(1077,.box 39 [.ptr 1196 0])]) ⟨(.sm O O),⟨⟨_,rfl,.boxL rfl (.sm O O)⟩,⟨_,rfl,.map⟩,⟨_,rfl,.map⟩,⟨_,rfl,.map⟩,⟨_,rfl,.boxL rfl ⟨.same rfl,G⟩⟩,G⟩,rfl⟩ ?_
 obtain⟨v3,hv3,h⟩:=Ga h
 refine J4 [10,11] [0,0,0,0,0,0,0,0,0,0,0,0,2] [1,1,1,1,1,1,1,1,1,2,0,0,2] [[(1196,.box 97 (Ey m)),(1197,TP 93 Slot.kv Box.av m.on),(1198,TP 94 (fun n:Int=>Value.int .i64 n) Box.av m.quay),(1199,TP 95 (fun n:Int=>Value.int .i64 n) I64 m.open_),(1077,.box 39 [.ptr 1196 0])],((1079,.box 60 [.junk,.junk,.junk,.junk,.junk,.junk,.junk,.junk,.junk])::[(1196,.box 97 (Ey m)),(1197,TP 93 Slot.kv Box.av m.on),(1198,TP 94 (fun n:Int=>Value.int .i64 n) Box.av m.quay),(1199,TP 95 (fun n:Int=>Value.int .i64 n) I64 m.open_),(1077,.box 39 [.ptr 1196 0])]),((1079,.box 60 (Box.cs v3))::((1079,.box 60 [.junk,.junk,.junk,.junk,.junk,.junk,.junk,.junk,.junk])::[(1196,.box 97 (Ey m)),(1197,TP 93 Slot.kv Box.av m.on),(1198,TP 94 (fun n:Int=>Value.int .i64 n) Box.av m.quay),(1199,TP 95 (fun n:Int=>Value.int .i64 n) I64 m.open_),(1077,.box 39 [.ptr 1196 0])]))] J0 (by kernel_rfl) rfl rfl ?_
 refine Gd (u:=.ptr 1196 0) O O ⟨Ge (Hx Hw O O O O) O,Ge (Hx Hw O O O O) O,G⟩ (Gd (u:=.ptr 1196 0) O O ⟨Ge (Rk O O) O,Ge (Rk O O) O,G⟩ (Gd (u:=.ptr 1196 13) O O ⟨Ge (Hh Ye O O) O,Ge (Hh Ye O O) O,G⟩ (Gd (u:=.mp 1197) O O ⟨Ge (Hx Yh O O O O) O,Ge (Hx Yh O O O O) O,G⟩ (Gd (u:=.dptr ((Move.cs x).drop 2)) O O ⟨Ge (G9 Jv O O O) O,Ge (G9 Jv O O O) O,G⟩ (Gd (u:=.agg (Slot.cs x.Slot)) O O ⟨Ge (Gi Hu O O O) O,Ge (Gi Hu O O O) O,G⟩ (Gd (u:=.tup [.agg (Box.cs v3),BL (Gt.has m.on x.Slot)]) O O ⟨Ge (((Option.some.inj hv3) ▸ Hfa (av:=Box.av) (m:=m.on) (a:=x.Slot) (Box.mk 0 ByteArray.empty 0 false 0 0 0 0 false) (.agg #[E0,.string ByteArray.empty,.int .u8 0,.bool false,E0,E0,E0,.int .u8 0,.bool false]) (fun _=>O) O (.own O) O Qe0 G4a J8c O)) O,Ge (((Option.some.inj hv3) ▸ Hfa (av:=Box.av) (m:=m.on) (a:=x.Slot) (Box.mk 0 ByteArray.empty 0 false 0 0 0 0 false) (.agg #[E0,.string ByteArray.empty,.int .u8 0,.bool false,E0,E0,E0,.int .u8 0,.bool false]) (fun _=>O) O (.own O) O Qe0 G4a J8c O)) O,G⟩ (Gd (u:=.tup [.agg (Box.cs v3),BL (Gt.has m.on x.Slot)]) O O ⟨Ge (G6 O O) O,Ge (G6 O O) O,G⟩ (Gd (u:=.agg (Box.cs v3)) O O ⟨Ge (Gz O O O) O,Ge (Gz O O O) O,G⟩ (Gd (u:=BL (Gt.has m.on x.Slot)) O O ⟨Ge (Gz O O O) O,Ge (Gz O O O) O,Ge (Gz O O O) O,G⟩ (D_w (u:=.ptr 1079 0) O O O O (Ge (Hp 1079 9 Qt O O) O) (H85 (u:=.junk) O O O O (Ge (Hc (u:=.agg (Box.cs v3)) (ds:=(Box.cs v3)) Rq O O O O O O O O) O) (Gd (u:=BL (Gt.has m.on x.Slot)) O O ⟨Ge (G7 O O) O,G⟩ (Qw ?_)))))))))))))
 refine hK2 ?_
 refine Gm [(2,.ptr 1077 0),(3,Ee x),(5,Eh v3),(6,BL (Gt.has m.on x.Slot))] [(1196,.box 97 (Ey m)),(1197,TP 93 Slot.kv Box.av m.on),(1198,TP 94 (fun n:Int=>Value.int .i64 n) Box.av m.quay),(1199,TP 95 (fun n:Int=>Value.int .i64 n) I64 m.open_),(1077,.box 39 [.ptr 1196 0])] 1079 rfl rfl rfl ⟨⟨_,rfl,.boxEq rfl rfl⟩,⟨_,rfl,.map⟩,⟨_,rfl,.map⟩,⟨_,rfl,.map⟩,⟨_,rfl,.boxEq rfl rfl⟩,G⟩ rfl (by repeat' (first | exact .ptr | constructor)) ?_
 refine Jr fun hK4=>(JLh (.dptr [I64 x.G8]) (G9 Ry O O O) O (JLh (I64 x.G8) (Gg Gc O O O) O (JLh (BL (decide (x.G8=0))) (Q0 O O O) O ?_)))
 obtain⟨r5,hr5,h⟩:=Ga h
 refine JLh (.agg [.fn 130 [.dptr [BL (decide (x.G8=0))]],I64 310]) (Gs O (H11 (decide (x.G8=0)) 310 r5 hr5) H05 ⟨O,O,O,O,G⟩) O (JLm (BL (Gt.has m.on x.Slot)) O (JLm (BL (Gt.has m.on x.Slot)) O (JLo (Eh v3) [] O .sct G (fun hc=>G9 Rc O O O) O (JLo (I64 v3.ID) [24] O .sct ⟨Ua,G⟩ (fun hc=>Gg Gc O O O) O (JLo (.dptr ((Move.cs x).drop 1)) [] O .sct G (fun hc=>G9 Yf O O O) O (JLo (I64 x.Box) [26] O .sct ⟨Ua,G⟩ (fun hc=>Gg Gc O O O) O (JLo (BL (decide (v3.ID=x.Box))) [25,27] O .sct ⟨Ua,Ua,G⟩ (fun hc=>Q0 O O O) O (JLh (BL ((Gt.has m.on x.Slot)&&(decide (v3.ID=x.Box)))) (Rm O O O O) O ?_))))))))
 obtain⟨r6,hr6,h⟩:=Ga h
 refine JLh (.agg [.fn 130 [.dptr [BL ((Gt.has m.on x.Slot)&&(decide (v3.ID=x.Box)))]],I64 313]) (Gs O (H11 ((Gt.has m.on x.Slot)&&(decide (v3.ID=x.Box))) 313 r6 hr6) H05 ⟨O,O,O,O,G⟩) O (JLh (.fn 82 [.ptr 1077 0,Ee x]) (Jy (cs:=[.ptr 1077 0,Ee x]) O O) O (JLh (.agg [.fn 82 [.ptr 1077 0,Ee x],I64 314]) (Hb (cs:=[.fn 82 [.ptr 1077 0,Ee x],I64 314]) [(0,1),(1,1)] [.sc .nilFunc,I64 0] [.nilFunc,E0] Zw G1b ⟨.inl O,.inl O,G⟩ O O) O (JLh (.fn 85 [.ptr 1077 0,Ee x]) (Jy (cs:=[.ptr 1077 0,Ee x]) O O) O (JLh (.agg [.fn 85 [.ptr 1077 0,Ee x],I64 315]) (Hb (cs:=[.fn 85 [.ptr 1077 0,Ee x],I64 315]) [(0,1),(1,1)] [.sc .nilFunc,I64 0] [.nilFunc,E0] Zw G1b ⟨.inl O,.inl O,G⟩ O O) O (JLh (.ms 1080 0 4 4) (Jeb 1080 (xs:=[.agg [.fn 130 [.dptr [BL (decide (x.G8=0))]],I64 310],.agg [.fn 130 [.dptr [BL ((Gt.has m.on x.Slot)&&(decide (v3.ID=x.Box)))]],I64 313],.agg [.fn 82 [.ptr 1077 0,Ee x],I64 314],.agg [.fn 85 [.ptr 1077 0,Ee x],I64 315]]) (cs:=[.fn 130 [.dptr [BL (decide (x.G8=0))]],I64 310,.fn 130 [.dptr [BL ((Gt.has m.on x.Slot)&&(decide (v3.ID=x.Box)))]],I64 313,.fn 82 [.ptr 1077 0,Ee x],I64 314,.fn 85 [.ptr 1077 0,Ee x],I64 315]) O ⟨O,O,O,O,G⟩ O Gea H4d O O O O O) O ?_)))))
 obtain⟨r7,hr7,h⟩:=Ga h
 refine JLg (I64 r7) (Z8 O (Q93.down [J5.mk 130 [.dptr [BL (decide (x.G8=0))]] (Z2 (decide (x.G8=0))) 310 Gd7 O (fun q hq=>Gb0 (decide (x.G8=0)) q hq),
 J5.mk 130 [.dptr [BL ((Gt.has m.on x.Slot)&&(decide (v3.ID=x.Box)))]] (Z2 ((Gt.has m.on x.Slot)&&(decide (v3.ID=x.Box)))) 313 Gd7 rfl (fun q hq=>Gb0 ((Gt.has m.on x.Slot)&&(decide (v3.ID=x.Box))) q hq),
 J5.mk 82 [.dptr [.dptr (Gb.cs m)],Ee x] (G6d m (Move.mk x.Kind x.Box x.Slot x.G8)) 314 Rb7 rfl (fun q hq=>Jb4 m (Move.mk x.Kind x.Box x.Slot x.G8) q hq),
 J5.mk 85 [.dptr [.dptr (Gb.cs m)],Ee x] (G6c m (Move.mk x.Kind x.Box x.Slot x.G8)) 315 Rb5 rfl (fun q hq=>Jb3 m (Move.mk x.Kind x.Box x.Slot x.G8) q hq)] r7 hr7) J65 ⟨.msL rfl rfl rfl ⟨.data rfl rfl,.data rfl rfl,.data rfl rfl,.data rfl rfl,.fnL ⟨.ptrL rfl ⟨.ptrL rfl ⟨.data rfl rfl,.data rfl rfl,.data rfl rfl,.data rfl rfl,.data rfl rfl,.data rfl rfl,.data rfl rfl,.data rfl rfl,.data rfl rfl,.data rfl rfl,.data rfl rfl,.data rfl rfl,.data rfl rfl,.mp rfl,.mp rfl,.mp rfl,.data rfl rfl,trivial⟩,trivial⟩,.data rfl rfl,trivial⟩,.data rfl rfl,.fnL ⟨.ptrL rfl ⟨.ptrL rfl ⟨.data rfl rfl,.data rfl rfl,.data rfl rfl,.data rfl rfl,.data rfl rfl,.data rfl rfl,.data rfl rfl,.data rfl rfl,.data rfl rfl,.data rfl rfl,.data rfl rfl,.data rfl rfl,.data rfl rfl,.mp rfl,.mp rfl,.mp rfl,.data rfl rfl,trivial⟩,trivial⟩,.data rfl rfl,trivial⟩,.data rfl rfl,trivial⟩,trivial⟩ rfl) ?_ rfl rfl rfl
 refine JLm (I64 r7) O (G5 (hK4 (Js fun hK8=>Jr fun hK9=>(JLm (I64 r7) O (JLh (BL (decide (r7≠0))) (Ge8 O O O) O (G5 (hK9 (JCc O h (fun h hb=>?_) (fun h hb=>?_)))))))))
 ·
  refine Jr fun hK10=>(JLm (I64 r7) O (JLm (I64 r7) O (G5 (hK10 (Gq ?_)))))
  obtain rfl:=Option.some.inj h
  exact⟨[I64 r7],[(1196,.box 97 (Ey m)),(1197,TP 93 Slot.kv Box.av m.on),(1198,TP 94 (fun n:Int=>Value.int .i64 n) Box.av m.quay),(1199,TP 95 (fun n:Int=>Value.int .i64 n) I64 m.open_)],⟨⟨_,rfl,.boxL rfl (.sm O O)⟩,⟨_,rfl,.map⟩,⟨_,rfl,.map⟩,⟨_,rfl,.map⟩,G⟩,rfl,⟨⟨_,rfl,.conv (.same rfl)⟩,G⟩,rfl,rfl⟩
 ·
  refine Gr (hK8 (Js fun hK11=>?_))
  refine Qc (l':=[(2,.ptr 1077 0),(3,Ee x),(5,Eh v3)]) (L':=[(1196,.box 97 (Ey m)),(1197,TP 93 Slot.kv Box.av m.on),(1198,TP 94 (fun n:Int=>Value.int .i64 n) Box.av m.quay),(1199,TP 95 (fun n:Int=>Value.int .i64 n) I64 m.open_),(1077,.box 39 [.ptr 1196 0]),(1080,.box 148 [.fn 130 [.dptr [BL (decide (x.G8=0))]],I64 310,.fn 130 [.dptr [BL ((Gt.has m.on x.Slot)&&(decide (v3.ID=x.Box)))]],I64 313,.fn 82 [.ptr 1077 0,Ee x],I64 314,.fn 85 [.ptr 1077 0,Ee x],I64 315])]) ⟨(.sm O O),⟨⟨_,rfl,.boxL rfl (.sm O O)⟩,⟨_,rfl,.map⟩,⟨_,rfl,.map⟩,⟨_,rfl,.map⟩,⟨_,rfl,.boxL rfl ⟨.same rfl,G⟩⟩,⟨_,rfl,.boxL rfl (.sm O O)⟩,G⟩,rfl⟩ ?_
  refine J4 [6] [0,0,0,0,0,0,0] [0,0,0,0,0,0,0] [[(1196,.box 97 (Ey m)),(1197,TP 93 Slot.kv Box.av m.on),(1198,TP 94 (fun n:Int=>Value.int .i64 n) Box.av m.quay),(1199,TP 95 (fun n:Int=>Value.int .i64 n) I64 m.open_),(1077,.box 39 [.ptr 1196 0]),(1080,.box 148 [.fn 130 [.dptr [BL (decide (x.G8=0))]],I64 310,.fn 130 [.dptr [BL ((Gt.has m.on x.Slot)&&(decide (v3.ID=x.Box)))]],I64 313,.fn 82 [.ptr 1077 0,Ee x],I64 314,.fn 85 [.ptr 1077 0,Ee x],I64 315])],((1197,TP 93 Slot.kv Box.av (Gt.del m.on x.Slot))::[(1196,.box 97 (Ey m)),(1197,TP 93 Slot.kv Box.av m.on),(1198,TP 94 (fun n:Int=>Value.int .i64 n) Box.av m.quay),(1199,TP 95 (fun n:Int=>Value.int .i64 n) I64 m.open_),(1077,.box 39 [.ptr 1196 0]),(1080,.box 148 [.fn 130 [.dptr [BL (decide (x.G8=0))]],I64 310,.fn 130 [.dptr [BL ((Gt.has m.on x.Slot)&&(decide (v3.ID=x.Box)))]],I64 313,.fn 82 [.ptr 1077 0,Ee x],I64 314,.fn 85 [.ptr 1077 0,Ee x],I64 315])])] J0 (by kernel_rfl) rfl rfl ?_
  refine Gd (u:=.ptr 1196 0) O O ⟨Ge (Hx Hw O O O O) O,G⟩ (Gd (u:=.ptr 1196 0) O O ⟨Ge (Rk O O) O,G⟩ (Gd (u:=.ptr 1196 13) O O ⟨Ge (Hh Ye O O) O,G⟩ (Gd (u:=.mp 1197) O O ⟨Ge (Hx Yh O O O O) O,G⟩ (Gd (u:=.dptr ((Move.cs x).drop 2)) O O ⟨Ge (G9 Jv O O O) O,G⟩ (Gd (u:=.agg (Slot.cs x.Slot)) O O ⟨Ge (Gi Hu O O O) O,G⟩ (H85 (u:=.tup []) O O O O (Ge (Hf9 (m:=m.on) (a:=x.Slot) (fun _=>O) O O O O Qe0 G4a) O) (Qw (hK11 (Js fun hK12=>?_)))))))))
  refine Qc (l':=[(2,.ptr 1077 0),(5,Eh v3)]) (L':=[(1196,.box 97 (Ey m)),(1197,TP 93 Slot.kv Box.av (Gt.del m.on x.Slot)),(1198,TP 94 (fun n:Int=>Value.int .i64 n) Box.av m.quay),(1199,TP 95 (fun n:Int=>Value.int .i64 n) I64 m.open_),(1077,.box 39 [.ptr 1196 0]),(1080,.box 148 [.fn 130 [.dptr [BL (decide (x.G8=0))]],I64 310,.fn 130 [.dptr [BL ((Gt.has m.on x.Slot)&&(decide (v3.ID=x.Box)))]],I64 313,.fn 82 [.ptr 1077 0,Ee x],I64 314,.fn 85 [.ptr 1077 0,Ee x],I64 315])]) ⟨(.sm O O),⟨⟨_,rfl,.boxL rfl (.sm O O)⟩,⟨_,rfl,.map⟩,⟨_,rfl,.map⟩,⟨_,rfl,.map⟩,⟨_,rfl,.boxL rfl ⟨.same rfl,G⟩⟩,⟨_,rfl,.boxL rfl (.sm O O)⟩,G⟩,rfl⟩ ?_
  refine J4 [7] [0,0,0,0,0,0,0,0] [0,0,0,0,0,0,0,0] [[(1196,.box 97 (Ey m)),(1197,TP 93 Slot.kv Box.av (Gt.del m.on x.Slot)),(1198,TP 94 (fun n:Int=>Value.int .i64 n) Box.av m.quay),(1199,TP 95 (fun n:Int=>Value.int .i64 n) I64 m.open_),(1077,.box 39 [.ptr 1196 0]),(1080,.box 148 [.fn 130 [.dptr [BL (decide (x.G8=0))]],I64 310,.fn 130 [.dptr [BL ((Gt.has m.on x.Slot)&&(decide (v3.ID=x.Box)))]],I64 313,.fn 82 [.ptr 1077 0,Ee x],I64 314,.fn 85 [.ptr 1077 0,Ee x],I64 315])],((1198,TP 94 (fun n:Int=>Value.int .i64 n) Box.av (Gt.put m.quay v3.ID v3))::[(1196,.box 97 (Ey m)),(1197,TP 93 Slot.kv Box.av (Gt.del m.on x.Slot)),(1198,TP 94 (fun n:Int=>Value.int .i64 n) Box.av m.quay),(1199,TP 95 (fun n:Int=>Value.int .i64 n) I64 m.open_),(1077,.box 39 [.ptr 1196 0]),(1080,.box 148 [.fn 130 [.dptr [BL (decide (x.G8=0))]],I64 310,.fn 130 [.dptr [BL ((Gt.has m.on x.Slot)&&(decide (v3.ID=x.Box)))]],I64 313,.fn 82 [.ptr 1077 0,Ee x],I64 314,.fn 85 [.ptr 1077 0,Ee x],I64 315])])] J0 (by kernel_rfl) rfl rfl ?_
  refine Gd (u:=.ptr 1196 0) O O ⟨Ge (Hx Hw O O O O) O,G⟩ (Gd (u:=.ptr 1196 0) O O ⟨Ge (Rk O O) O,G⟩ (Gd (u:=.ptr 1196 14) O O ⟨Ge (Hh G1c O O) O,G⟩ (Gd (u:=.mp 1198) O O ⟨Ge (Hx G15 O O O O) O,G⟩ (Gd (u:=Eh v3) O O ⟨Ge (G9 Rc O O O) O,G⟩ (Gd (u:=I64 v3.ID) O O ⟨Ge (Gg Gc O O O) O,G⟩ (Gd (u:=.agg (Box.cs v3)) O O ⟨Ge (Gi Yj O O O) O,G⟩ (H85 (u:=.junk) O O O O (Ge (G69 (m:=m.quay) (a:=v3.ID) (v:=v3) (fun _=>O) O O O O O O Q44 H04) O) (Qw (hK12 ?_)))))))))
  refine Jr fun hK13=>(JLh (.ptr 1196 0) (Hx Hw O O O O) O (JLh (.ptr 1196 0) (Rk O O) O (JLh (.ptr 1196 16) (Hh Gbc O O) O (JLh (I64 m.lifts) (Hx Gc O O O O) O ?_))))
  obtain⟨v14,hv14,h⟩:=Jd h
  refine JLh (I64 v14) (Jf hv14 O O O) O (JLh (.ptr 1196 0) (Rk O O) O (JLh (.ptr 1196 16) (Hh Gbc O O) O (Ho (u:=.junk) (Hc (u:=I64 v14) (ds:=[E1 m.ship.Columns,E7 m.ship.Covers,I64 m.ship.Light.Kilos,I64 m.ship.Light.X,I64 m.ship.Light.Y,I64 m.ship.Light.Z,E3 m.ship.Rows,E4 m.ship.Frames,E5 m.ship.Tanks,I64 m.ship.G4.Tolerance,I64 m.ship.G4.Trim,I64 m.ship.G4.List_,I64 m.ship.G4.Stability,.mp 1197,.mp 1198,.mp 1199,I64 v14]) G2b O O O O O O O O) (G5 (hK13 (Jr fun hK15=>(JLm (I64 0) O (G5 (hK15 (Gq ?_))))))))))
  obtain rfl:=Option.some.inj h
  exact⟨[I64 0],[(1196,.box 97 [E1 m.ship.Columns,E7 m.ship.Covers,I64 m.ship.Light.Kilos,I64 m.ship.Light.X,I64 m.ship.Light.Y,I64 m.ship.Light.Z,E3 m.ship.Rows,E4 m.ship.Frames,E5 m.ship.Tanks,I64 m.ship.G4.Tolerance,I64 m.ship.G4.Trim,I64 m.ship.G4.List_,I64 m.ship.G4.Stability,.mp 1197,.mp 1198,.mp 1199,I64 v14]),(1197,TP 93 Slot.kv Box.av (Gt.del m.on x.Slot)),(1198,TP 94 (fun n:Int=>Value.int .i64 n) Box.av (Gt.put m.quay v3.ID v3)),(1199,TP 95 (fun n:Int=>Value.int .i64 n) I64 m.open_)],⟨⟨_,rfl,.boxL rfl (.sm O O)⟩,⟨_,rfl,.map⟩,⟨_,rfl,.map⟩,⟨_,rfl,.map⟩,G⟩,rfl,⟨⟨_,rfl,.conv (.same rfl)⟩,G⟩,rfl,rfl⟩

def G9b (p0:Gb) (p1:Move) (p2:Box):Option Bool:=
 bnd (G39 p0.ship p1.Slot p2.Size) fun r3=>
 some r3
theorem Je4 (p0:Gb) (p1:Move) (p2:Box) (r:Bool) (h:G9b p0 p1 p2=some r):Pure Eo 87 [.dptr [.dptr (Gb.cs p0)],Ee p1,Eh p2] (·=BL r):=by
 unfold G9b at h
 refine Gy [.tmp 3] Tryz.func87 O O (Jr fun hK1=>(JLm (BL false) O (G5 (hK1 (Js fun hK2=>?_)))))
 obtain⟨r3,hr3,h⟩:=Ga h
 refine JC_d0 J0 (by kernel_rfl) (Dq (Ef p0) (Gg Hw O O O) O (Dq (Ef p0) (G68 O O) O (Dq (Ef p0) (G9 Rb O O O) O (Dq (.agg (Gk.cs p0.ship)) (Gi Hq O O O) O (Dq (.dptr ((Move.cs p1).drop 2)) (G9 Jv O O O) O (Dq (.agg (Slot.cs p1.Slot)) (Gi Hu O O O) O (Dq (.dptr ((Box.cs p2).drop 2)) (G9 Rx O O O) O (Dq (U8 p2.Size) (Gg Hn O O O) O (Dq (BL r3) (Gs (args:=[.agg (Gk.cs p0.ship),.agg (Slot.cs p1.Slot),U8 p2.Size]) O (H7e p0.ship p1.Slot p2.Size r3 hr3) J69 ⟨O,O,O,O,O,O,G⟩) O (Dq (BL r3) (G7 O O) O (Dnil (hK2 (Gq (fin1 BL h))))))))))))))

def G9a (p0:Gb) (p1:Move):Option Bool:=
 bnd (G52 p0 p1.Slot) fun r3=>
 some (!r3)
theorem Je3 (p0:Gb) (p1:Move) (r:Bool) (h:G9a p0 p1=some r):Pure Eo 88 [.dptr [.dptr (Gb.cs p0)],Ee p1] (·=BL r):=by
 unfold G9a at h
 refine Gy [.tmp 2] Tryz.func88 O O (Jr fun hK1=>(JLm (BL false) O (G5 (hK1 (Jr fun hK2=>(JLh (Ef p0) (Gg Hw O O O) O (JLh (.dptr ((Move.cs p1).drop 2)) (G9 Jv O O O) O (JLh (.agg (Slot.cs p1.Slot)) (Gi Hu O O O) O ?_))))))))
 obtain⟨r3,hr3,h⟩:=Ga h
 refine JLh (BL r3) (Gs O (Hc0 p0 p1.Slot r3 hr3) Q56 ⟨O,O,O,O,G⟩) O (JLh (BL (!r3)) (Qx (b:=r3) O O) O (JLm (BL (!r3)) O (G5 (hK2 (Gq (fin1 BL h))))))

def G53 (y:Slot) (p1:Move):Option Bool:=
 bnd (G94 y p1.Slot) fun r3=>
 some r3
theorem J7e (y:Slot) (p1:Move) (r:Bool) (h:G53 y p1=some r):Pure Eo 90 [.agg [I64 y.G2,I64 y.Tier,U8 y.Half],Ee p1] (·=BL r):=by
 unfold G53 at h
 refine Gy [.tmp 3] Tryz.func90 O O (Jr fun hK1=>(JLh (.ptr 1146 0) (Jk (cs:=[I64 y.G2,I64 y.Tier,U8 y.Half]) 1146 O O O O O) O (JLm (BL false) O (G5 (hK1 (Gm [(1,Ee p1),(2,.dptr [I64 y.G2,I64 y.Tier,U8 y.Half])] [] 1146 rfl rfl rfl G rfl (by exact⟨.conv (.same rfl),.ptr,G⟩) (Jr fun hK2=>(JLh (.agg [I64 y.G2,I64 y.Tier,U8 y.Half]) (Gi Hu O O O) O (JLh (.dptr ((Move.cs p1).drop 2)) (G9 Jv O O O) O (JLh (.agg (Slot.cs p1.Slot)) (Gi Hu O O O) O ?_))))))))))
 obtain⟨r3,hr3,h⟩:=Ga h
 refine JLh (BL r3) (Gs O (Ha7 y p1.Slot r3 hr3) J67 ⟨O,O,O,O,G⟩) O (JLm (BL r3) O (G5 (hK2 (Gq (fin1 BL h)))))

def G99 (p0:Gb) (p1:Move):Option Bool:=
 bnd (Zz p0 (fun z0=>G53 z0 p1)) fun r3=>
 some (!r3)
theorem Je2 (p0:Gb) (p1:Move) (r:Bool) (h:G99 p0 p1=some r):Pure Eo 89 [.dptr [.dptr (Gb.cs p0)],Ee p1] (·=BL r):=by
 unfold G99 at h
 refine Gy [.tmp 2] Tryz.func89 O O (Jr fun hK1=>(JLm (BL false) O (G5 (hK1 (Jr fun hK2=>(JLh (Ef p0) (Gg Hw O O O) O (JLh (.fn 90 [.dptr (Move.cs p1)]) (Jy (cs:=[.dptr (Move.cs p1)]) O O) O ?_)))))))
 obtain⟨r3,hr3,h⟩:=Ga h
 refine JLh (BL r3) (Gs O (H42.down p0 (fun z0=>G53 z0 p1) 90 [.dptr (Move.cs p1)] Rb1 O (fun z0 q hq=>J7e z0 p1 q hq) r3 hr3) J66 ⟨O,O,O,O,G⟩) O (JLh (BL (!r3)) (Qx (b:=r3) O O) O (JLm (BL (!r3)) O (G5 (hK2 (Gq (fin1 BL h))))))

def G98 (p0:Move) (p1:Gb):Option Bool:=
 bnd (G10 p1.on) fun r3=>
 bnd (Zy (Gt.keys p1.on)) fun r4=>
 bnd (H40 p0.Slot r4) fun r5=>
 some r5
theorem Je1 (p0:Move) (p1:Gb) (r:Bool) (h:G98 p0 p1=some r):Pure Eo 91 [.dptr (Move.cs p0),.dptr [.dptr (Gb.cs p1)]] (·=BL r):=by
 unfold G98 at h
 refine Gy [.tmp 2] Tryz.func91 O O (Jr fun hK1=>(JLm (BL false) O (G5 (hK1 (Js fun hK2=>?_)))))
 obtain⟨r3,hr3,h⟩:=Ga h
 obtain⟨r4,hr4,h⟩:=Ga h
 obtain⟨r5,hr5,h⟩:=Ga h
 refine JC_d0 J0 (by kernel_rfl) (Dq (.dptr ((Move.cs p0).drop 2)) (G9 Jv O O O) O (Dq (.agg (Slot.cs p0.Slot)) (Gi Hu O O O) O (Dq (Ef p1) (Gg Hw O O O) O (Dq (Ef p1) (G68 O O) O (Dq (.dptr ((Gb.cs p1).drop 13)) (G9 Ye O O O) O (Dq (DM Slot.kv Box.av p1.on) (Gg Yh O O O) O (Dq (.fn 132 [.dptr [DM Slot.kv Box.av p1.on]]) (Gs (args:=[DM Slot.kv Box.av p1.on]) O (H12 p1.on r3 hr3) Rae ⟨O,O,G⟩) O (Dq (BG 3 Slot.av r4) (Gs (args:=[.fn 132 [.dptr [DM Slot.kv Box.av p1.on]]]) O (H7a.down (Gt.keys p1.on) 132 [.dptr [DM Slot.kv Box.av p1.on]] R52 O (Gf8 p1.on) r4 hr4) Raf ⟨O,O,G⟩) O (Dq (BL r5) (Gs (args:=[.agg (Slot.cs p0.Slot),BG 3 Slot.av r4]) O (Jae.down p0.Slot r4 r5 hr5) J68 ⟨O,O,O,O,G⟩) O (Dq (BL r5) (G7 O O) O (Dnil ?_)))))))))))
 refine hK2 (Gq (fin1 BL h))

def G97 (p0:Gb) (p1:Move) (p2:Box):Option Bool:=
 Yy p0.ship.Columns p1.Slot.G2 fun y3=>
 bnd (bif (!(decide (y3.Height≤0))) then G24 p0 p1.Slot p2 1 else some default) fun r6=>
 bnd (bif (!(decide (y3.Height≤0))) then G24 p0 p1.Slot p2 2 else some default) fun r7=>
 some ((decide (y3.Height≤0))||(decide ((max r6 r7)≤y3.Height)))
theorem Je0 (p0:Gb) (p1:Move) (p2:Box) (r:Bool) (h:G97 p0 p1 p2=some r):Pure Eo 94 [.dptr [.dptr (Gb.cs p0)],Ee p1,Eh p2] (·=BL r):=by
 unfold G97 at h
 refine Gy [.tmp 3] Tryz.func94 O O (Jr fun hK1=>(JLm (BL false) O (G5 (hK1 (Js fun hK2=>?_)))))
 obtain⟨m4,y3,hm4,hy3,h⟩:=Y9 h
 refine JC_d0 J0 (by kernel_rfl) (Dq (Ef p0) (Gg Hw O O O) O (Dq (Ef p0) (G68 O O) O (Dq (Ef p0) (G9 Rb O O O) O (Dq (Ef p0) (G9 Hv O O O) O (Dq (E1 p0.ship.Columns) (Gg J8 O O O) O (Dq (.dptr ((Move.cs p1).drop 2)) (G9 Jv O O O) O (Dq (.dptr ((Move.cs p1).drop 2)) (G9 Jc O O O) O (Dq (I64 p1.Slot.G2) (Gg Gc O O O) O (Dq (Ej y3) (Hf (f:=G2.av) (xs:=p0.ship.Columns) (y:=y3) O O O Ht hy3 hm4) O (Dq (.dptr ((G2.cs y3).drop 4)) (G9 Ha3 O O O) O (Dq (I64 y3.Height) (Gg Gc O O O) O (Dq (I64 y3.Height) (G7 O O) O (Dnil (hK2 (Js fun hK5=>?_)))))))))))))))
 obtain⟨r6,hr6,h⟩:=Ga h
 obtain⟨r7,hr7,h⟩:=Ga h
 refine JC_d0 J0 (by kernel_rfl) (Dq (I64 y3.Height) (G6 O O) O (Dq (BL (decide (y3.Height≤0))) (J06 O O O) O (Dq (BL (decide (y3.Height≤0))) (G6 O O) O (Do (Ef p0) [] O .scf G (fun hc=>Gg Hw O O O) O (Do (.dptr ((Move.cs p1).drop 2)) [] O .scf G (fun hc=>G9 Jv O O O) O (Do (.agg (Slot.cs p1.Slot)) [20] O .scf ⟨Ua,G⟩ (fun hc=>Gi Hu O O O) O (Do (.agg (Box.cs p2)) [] O .scf G (fun hc=>Gi Yj O O O) O (Do (I64 r6) [19,21,22] O .scf ⟨Ua,Ua,Ua,G⟩ (fun hc=>Gs (args:=[.dptr (Gb.cs p0),.agg (Slot.cs p1.Slot),.agg (Box.cs p2),U8 1]) O (Hbd.down p0 p1.Slot p2 1 r6 (H1 hc hr6)) Q55 ⟨O,O,O,O,O,O,O,O,G⟩) O (Do (Ef p0) [] O .scf G (fun hc=>Gg Hw O O O) O (Do (.dptr ((Move.cs p1).drop 2)) [] O .scf G (fun hc=>G9 Jv O O O) O (Do (.agg (Slot.cs p1.Slot)) [25] O .scf ⟨Ua,G⟩ (fun hc=>Gi Hu O O O) O (Do (.agg (Box.cs p2)) [] O .scf G (fun hc=>Gi Yj O O O) O (Do (I64 r7) [24,26,27] O .scf ⟨Ua,Ua,Ua,G⟩ (fun hc=>Gs (args:=[.dptr (Gb.cs p0),.agg (Slot.cs p1.Slot),.agg (Box.cs p2),U8 2]) O (Hbd.down p0 p1.Slot p2 2 r7 (H1 hc hr7)) Q55 ⟨O,O,O,O,O,O,O,O,G⟩) O ?_)))))))))))))
 refine Do (I64 (max r6 r7)) [23,28] O .scf ⟨Ua,Ua,G⟩ (fun hc=>Yff O O O) O (Do (I64 y3.Height) [] O .scf G (fun hc=>G6 O O) O (Do (BL (decide ((max r6 r7)≤y3.Height))) [29,30] O .scf ⟨Ua,Ua,G⟩ (fun hc=>J06 O O O) O (Dq (BL ((decide (y3.Height≤0))||(decide ((max r6 r7)≤y3.Height)))) (G28 O O O O) O (Dq (BL ((decide (y3.Height≤0))||(decide ((max r6 r7)≤y3.Height)))) (G7 O O) O (Dnil (hK5 (Gq (fin1 BL h))))))))

def Gf6 (m:Gb) (x:Move):Option (Int×Gb):=
 bnd (some (Gt.get m.quay x.Box (Box.mk 0 ByteArray.empty 0 false 0 0 0 0 false))) fun v3=>
 bnd (H37 (decide (x.G8=0)) 310) fun r5=>
 bnd (H37 (Gt.has m.quay x.Box) 313) fun r6=>
 bnd (H1c [(Z2 (decide (x.G8=0)),310),
  (Z2 (Gt.has m.quay x.Box),313),
  (G9b m (Move.mk x.Kind x.Box x.Slot x.G8) v3,316),
  (G9a m (Move.mk x.Kind x.Box x.Slot x.G8),315),
  (G99 m (Move.mk x.Kind x.Box x.Slot x.G8),317),
  (G98 (Move.mk x.Kind x.Box x.Slot x.G8) m,318),
  (G97 m (Move.mk x.Kind x.Box x.Slot x.G8) v3,319)]) fun r7=>
 bif decide (r7≠0) then
 (some (r7,m))
 else
 (chk (m.lifts+1) fun v14=>
  some (0,(Gb.mk m.ship (Gt.put m.on x.Slot v3) (Gt.del m.quay x.Box) m.open_ v14)))
abbrev Ez (m:Gb):List AV:=[E1 m.ship.Columns,E7 m.ship.Covers,I64 m.ship.Light.Kilos,I64 m.ship.Light.X,I64 m.ship.Light.Y,I64 m.ship.Light.Z,E3 m.ship.Rows,E4 m.ship.Frames,E5 m.ship.Tanks,I64 m.ship.G4.Tolerance,I64 m.ship.G4.Trim,I64 m.ship.G4.List_,I64 m.ship.G4.Stability,.mp 1197,.mp 1198,.mp 1199,I64 m.lifts]
theorem Qb0 (m:Gb) (x:Move) (r:Int×Gb) (h:Gf6 m x=some r):Jg Eo 37 [.ptr 1196 0,.agg (Move.cs x)] [(1196,.box 97 [E1 m.ship.Columns,E7 m.ship.Covers,I64 m.ship.Light.Kilos,I64 m.ship.Light.X,I64 m.ship.Light.Y,I64 m.ship.Light.Z,E3 m.ship.Rows,E4 m.ship.Frames,E5 m.ship.Tanks,I64 m.ship.G4.Tolerance,I64 m.ship.G4.Trim,I64 m.ship.G4.List_,I64 m.ship.G4.Stability,.mp 1197,.mp 1198,.mp 1199,I64 m.lifts]),(1197,TP 93 Slot.kv Box.av m.on),(1198,TP 94 (fun n:Int=>Value.int .i64 n) Box.av m.quay),(1199,TP 95 (fun n:Int=>Value.int .i64 n) I64 m.open_)] (fun av L'=>av=I64 r.1∧L'=[(1196,.box 97 [E1 r.2.ship.Columns,E7 r.2.ship.Covers,I64 r.2.ship.Light.Kilos,I64 r.2.ship.Light.X,I64 r.2.ship.Light.Y,I64 r.2.ship.Light.Z,E3 r.2.ship.Rows,E4 r.2.ship.Frames,E5 r.2.ship.Tanks,I64 r.2.ship.G4.Tolerance,I64 r.2.ship.G4.Trim,I64 r.2.ship.G4.List_,I64 r.2.ship.G4.Stability,.mp 1197,.mp 1198,.mp 1199,I64 r.2.lifts]),(1197,TP 93 Slot.kv Box.av r.2.on),(1198,TP 94 (fun n:Int=>Value.int .i64 n) Box.av r.2.quay),(1199,TP 95 (fun n:Int=>Value.int .i64 n) I64 r.2.open_)]):=by
 unfold Gf6 at h
 refine Q9 [1196,1197,1198,1199] [.tmp 4] Tryz.func37 O O (G4e O) (Jr fun hK1=>(JLh (.ptr 1081 0) (Jk (cs:=[.ptr 1196 0]) 1081 O O O O O) O (JLh (.ptr 1082 0) (Jk (cs:=[U8 x.Kind,I64 x.Box,I64 x.Slot.G2,I64 x.Slot.Tier,U8 x.Slot.Half,I64 x.G8]) 1082 O O O O O) O (JLm (I64 0) O (G5 (hK1 ?_))))))
 refine Gm [(2,.ptr 1081 0),(3,Ee x)] [(1196,.box 97 (Ez m)),(1197,TP 93 Slot.kv Box.av m.on),(1198,TP 94 (fun n:Int=>Value.int .i64 n) Box.av m.quay),(1199,TP 95 (fun n:Int=>Value.int .i64 n) I64 m.open_),(1081,.box 39 [.ptr 1196 0])] 1082 rfl rfl rfl ⟨⟨_,rfl,.boxEq rfl rfl⟩,⟨_,rfl,.map⟩,⟨_,rfl,.map⟩,⟨_,rfl,.map⟩,⟨_,rfl,.boxEq rfl rfl⟩,G⟩ rfl (by exact⟨.conv (.same rfl),.ptr,G⟩) ?_
 refine Js fun hK2=>?_
 refine Qc (l':=[(2,.ptr 1081 0),(3,Ee x)]) (L':=[(1196,.box 97 (Ez m)),(1197,TP 93 Slot.kv Box.av m.on),(1198,TP 94 (fun n:Int=>Value.int .i64 n) Box.av m.quay),(1199,TP 95 (fun n:Int=>Value.int .i64 n) I64 m.open_),(1081,.box 39 [.ptr 1196 0])]) ⟨(.sm O O),⟨⟨_,rfl,.boxL rfl (.sm O O)⟩,⟨_,rfl,.map⟩,⟨_,rfl,.map⟩,⟨_,rfl,.map⟩,⟨_,rfl,.boxL rfl ⟨.same rfl,G⟩⟩,G⟩,rfl⟩ ?_
 obtain⟨v3,hv3,h⟩:=Ga h
 refine J4 [10,11] [0,0,0,0,0,0,0,0,0,0,0,0,2] [1,1,1,1,1,1,1,1,1,2,0,0,2] [[(1196,.box 97 (Ez m)),(1197,TP 93 Slot.kv Box.av m.on),(1198,TP 94 (fun n:Int=>Value.int .i64 n) Box.av m.quay),(1199,TP 95 (fun n:Int=>Value.int .i64 n) I64 m.open_),(1081,.box 39 [.ptr 1196 0])],((1083,.box 60 [.junk,.junk,.junk,.junk,.junk,.junk,.junk,.junk,.junk])::[(1196,.box 97 (Ez m)),(1197,TP 93 Slot.kv Box.av m.on),(1198,TP 94 (fun n:Int=>Value.int .i64 n) Box.av m.quay),(1199,TP 95 (fun n:Int=>Value.int .i64 n) I64 m.open_),(1081,.box 39 [.ptr 1196 0])]),((1083,.box 60 (Box.cs v3))::((1083,.box 60 [.junk,.junk,.junk,.junk,.junk,.junk,.junk,.junk,.junk])::[(1196,.box 97 (Ez m)),(1197,TP 93 Slot.kv Box.av m.on),(1198,TP 94 (fun n:Int=>Value.int .i64 n) Box.av m.quay),(1199,TP 95 (fun n:Int=>Value.int .i64 n) I64 m.open_),(1081,.box 39 [.ptr 1196 0])]))] J0 (by kernel_rfl) rfl rfl ?_
 refine Gd (u:=.ptr 1196 0) O O ⟨Ge (Hx Hw O O O O) O,Ge (Hx Hw O O O O) O,G⟩ (Gd (u:=.ptr 1196 0) O O ⟨Ge (Rk O O) O,Ge (Rk O O) O,G⟩ (Gd (u:=.ptr 1196 14) O O ⟨Ge (Hh G1c O O) O,Ge (Hh G1c O O) O,G⟩ (Gd (u:=.mp 1198) O O ⟨Ge (Hx G15 O O O O) O,Ge (Hx G15 O O O O) O,G⟩ (Gd (u:=.dptr ((Move.cs x).drop 1)) O O ⟨Ge (G9 Yf O O O) O,Ge (G9 Yf O O O) O,G⟩ (Gd (u:=I64 x.Box) O O ⟨Ge (Gg Gc O O O) O,Ge (Gg Gc O O O) O,G⟩ (Gd (u:=.tup [.agg (Box.cs v3),BL (Gt.has m.quay x.Box)]) O O ⟨Ge (((Option.some.inj hv3) ▸ Hfa (av:=Box.av) (m:=m.quay) (a:=x.Box) (Box.mk 0 ByteArray.empty 0 false 0 0 0 0 false) (.agg #[E0,.string ByteArray.empty,.int .u8 0,.bool false,E0,E0,E0,.int .u8 0,.bool false]) (fun _=>O) O (.own O) O Q44 H04 J8c O)) O,Ge (((Option.some.inj hv3) ▸ Hfa (av:=Box.av) (m:=m.quay) (a:=x.Box) (Box.mk 0 ByteArray.empty 0 false 0 0 0 0 false) (.agg #[E0,.string ByteArray.empty,.int .u8 0,.bool false,E0,E0,E0,.int .u8 0,.bool false]) (fun _=>O) O (.own O) O Q44 H04 J8c O)) O,G⟩ (Gd (u:=.tup [.agg (Box.cs v3),BL (Gt.has m.quay x.Box)]) O O ⟨Ge (G6 O O) O,Ge (G6 O O) O,G⟩ (Gd (u:=.agg (Box.cs v3)) O O ⟨Ge (Gz O O O) O,Ge (Gz O O O) O,G⟩ (Gd (u:=BL (Gt.has m.quay x.Box)) O O ⟨Ge (Gz O O O) O,Ge (Gz O O O) O,Ge (Gz O O O) O,G⟩ (D_w (u:=.ptr 1083 0) O O O O (Ge (Hp 1083 9 Qt O O) O) (H85 (u:=.junk) O O O O (Ge (Hc (u:=.agg (Box.cs v3)) (ds:=(Box.cs v3)) Rq O O O O O O O O) O) (Gd (u:=BL (Gt.has m.quay x.Box)) O O ⟨Ge (G7 O O) O,G⟩ (Qw ?_)))))))))))))
 refine hK2 ?_
 refine Gm [(2,.ptr 1081 0),(3,Ee x),(5,Eh v3),(6,BL (Gt.has m.quay x.Box))] [(1196,.box 97 (Ez m)),(1197,TP 93 Slot.kv Box.av m.on),(1198,TP 94 (fun n:Int=>Value.int .i64 n) Box.av m.quay),(1199,TP 95 (fun n:Int=>Value.int .i64 n) I64 m.open_),(1081,.box 39 [.ptr 1196 0])] 1083 rfl rfl rfl ⟨⟨_,rfl,.boxEq rfl rfl⟩,⟨_,rfl,.map⟩,⟨_,rfl,.map⟩,⟨_,rfl,.map⟩,⟨_,rfl,.boxEq rfl rfl⟩,G⟩ rfl (by repeat' (first | exact .ptr | constructor)) ?_
 refine Jr fun hK4=>(JLh (.dptr [I64 x.G8]) (G9 Ry O O O) O (JLh (I64 x.G8) (Gg Gc O O O) O (JLh (BL (decide (x.G8=0))) (Q0 O O O) O ?_)))
 obtain⟨r5,hr5,h⟩:=Ga h
 refine JLh (.agg [.fn 130 [.dptr [BL (decide (x.G8=0))]],I64 310]) (Gs O (H11 (decide (x.G8=0)) 310 r5 hr5) H05 ⟨O,O,O,O,G⟩) O (JLm (BL (Gt.has m.quay x.Box)) O ?_)
 obtain⟨r6,hr6,h⟩:=Ga h
 refine JLh (.agg [.fn 130 [.dptr [BL (Gt.has m.quay x.Box)]],I64 313]) (Gs O (H11 (Gt.has m.quay x.Box) 313 r6 hr6) H05 ⟨O,O,O,O,G⟩) O (JLh (.fn 87 [.ptr 1081 0,Ee x,Eh v3]) (Jy (cs:=[.ptr 1081 0,Ee x,Eh v3]) O O) O (JLh (.agg [.fn 87 [.ptr 1081 0,Ee x,Eh v3],I64 316]) (Hb (cs:=[.fn 87 [.ptr 1081 0,Ee x,Eh v3],I64 316]) [(0,1),(1,1)] [.sc .nilFunc,I64 0] [.nilFunc,E0] Zw G1b ⟨.inl O,.inl O,G⟩ O O) O (JLh (.fn 88 [.ptr 1081 0,Ee x]) (Jy (cs:=[.ptr 1081 0,Ee x]) O O) O (JLh (.agg [.fn 88 [.ptr 1081 0,Ee x],I64 315]) (Hb (cs:=[.fn 88 [.ptr 1081 0,Ee x],I64 315]) [(0,1),(1,1)] [.sc .nilFunc,I64 0] [.nilFunc,E0] Zw G1b ⟨.inl O,.inl O,G⟩ O O) O (JLh (.fn 89 [.ptr 1081 0,Ee x]) (Jy (cs:=[.ptr 1081 0,Ee x]) O O) O (JLh (.agg [.fn 89 [.ptr 1081 0,Ee x],I64 317]) (Hb (cs:=[.fn 89 [.ptr 1081 0,Ee x],I64 317]) [(0,1),(1,1)] [.sc .nilFunc,I64 0] [.nilFunc,E0] Zw G1b ⟨.inl O,.inl O,G⟩ O O) O (JLh (.fn 91 [.dptr (Move.cs x),.ptr 1081 0]) (Jy (cs:=[.dptr (Move.cs x),.ptr 1081 0]) O O) O (JLh (.agg [.fn 91 [.dptr (Move.cs x),.ptr 1081 0],I64 318]) (Hb (cs:=[.fn 91 [.dptr (Move.cs x),.ptr 1081 0],I64 318]) [(0,1),(1,1)] [.sc .nilFunc,I64 0] [.nilFunc,E0] Zw G1b ⟨.inl O,.inl O,G⟩ O O) O (JLh (.fn 94 [.ptr 1081 0,Ee x,Eh v3]) (Jy (cs:=[.ptr 1081 0,Ee x,Eh v3]) O O) O (JLh (.agg [.fn 94 [.ptr 1081 0,Ee x,Eh v3],I64 319]) (Hb (cs:=[.fn 94 [.ptr 1081 0,Ee x,Eh v3],I64 319]) [(0,1),(1,1)] [.sc .nilFunc,I64 0] [.nilFunc,E0] Zw G1b ⟨.inl O,.inl O,G⟩ O O) O (JLh (.ms 1084 0 7 7) (Jeb 1084 (xs:=[.agg [.fn 130 [.dptr [BL (decide (x.G8=0))]],I64 310],.agg [.fn 130 [.dptr [BL (Gt.has m.quay x.Box)]],I64 313],.agg [.fn 87 [.ptr 1081 0,Ee x,Eh v3],I64 316],.agg [.fn 88 [.ptr 1081 0,Ee x],I64 315],.agg [.fn 89 [.ptr 1081 0,Ee x],I64 317],.agg [.fn 91 [.dptr (Move.cs x),.ptr 1081 0],I64 318],.agg [.fn 94 [.ptr 1081 0,Ee x,Eh v3],I64 319]]) (cs:=[.fn 130 [.dptr [BL (decide (x.G8=0))]],I64 310,.fn 130 [.dptr [BL (Gt.has m.quay x.Box)]],I64 313,.fn 87 [.ptr 1081 0,Ee x,Eh v3],I64 316,.fn 88 [.ptr 1081 0,Ee x],I64 315,.fn 89 [.ptr 1081 0,Ee x],I64 317,.fn 91 [.dptr (Move.cs x),.ptr 1081 0],I64 318,.fn 94 [.ptr 1081 0,Ee x,Eh v3],I64 319]) O ⟨O,O,O,O,O,O,O,G⟩ O Gea H4d O O O O O) O ?_)))))))))))
 obtain⟨r7,hr7,h⟩:=Ga h
 refine JLg (I64 r7) (Z8 O (Q93.down [J5.mk 130 [.dptr [BL (decide (x.G8=0))]] (Z2 (decide (x.G8=0))) 310 Gd7 O (fun q hq=>Gb0 (decide (x.G8=0)) q hq),
 J5.mk 130 [.dptr [BL (Gt.has m.quay x.Box)]] (Z2 (Gt.has m.quay x.Box)) 313 Gd7 rfl (fun q hq=>Gb0 (Gt.has m.quay x.Box) q hq),
 J5.mk 87 [.dptr [.dptr (Gb.cs m)],Ee x,Eh v3] (G9b m (Move.mk x.Kind x.Box x.Slot x.G8) v3) 316 Rb4 rfl (fun q hq=>Je4 m (Move.mk x.Kind x.Box x.Slot x.G8) v3 q hq),
 J5.mk 88 [.dptr [.dptr (Gb.cs m)],Ee x] (G9a m (Move.mk x.Kind x.Box x.Slot x.G8)) 315 Rb3 rfl (fun q hq=>Je3 m (Move.mk x.Kind x.Box x.Slot x.G8) q hq),
 J5.mk 89 [.dptr [.dptr (Gb.cs m)],Ee x] (G99 m (Move.mk x.Kind x.Box x.Slot x.G8)) 317 Rb2 rfl (fun q hq=>Je2 m (Move.mk x.Kind x.Box x.Slot x.G8) q hq),
 J5.mk 91 [.dptr (Move.cs x),.dptr [.dptr (Gb.cs m)]] (G98 (Move.mk x.Kind x.Box x.Slot x.G8) m) 318 Rb0 rfl (fun q hq=>Je1 (Move.mk x.Kind x.Box x.Slot x.G8) m q hq),
 J5.mk 94 [.dptr [.dptr (Gb.cs m)],Ee x,Eh v3] (G97 m (Move.mk x.Kind x.Box x.Slot x.G8) v3) 319 Rad rfl (fun q hq=>Je0 m (Move.mk x.Kind x.Box x.Slot x.G8) v3 q hq)] r7 hr7) J65 ⟨.msL rfl rfl rfl ⟨.data rfl rfl,.data rfl rfl,.data rfl rfl,.data rfl rfl,.fnL ⟨.ptrL rfl ⟨.ptrL rfl ⟨.data rfl rfl,.data rfl rfl,.data rfl rfl,.data rfl rfl,.data rfl rfl,.data rfl rfl,.data rfl rfl,.data rfl rfl,.data rfl rfl,.data rfl rfl,.data rfl rfl,.data rfl rfl,.data rfl rfl,.mp rfl,.mp rfl,.mp rfl,.data rfl rfl,trivial⟩,trivial⟩,.data rfl rfl,.data rfl rfl,trivial⟩,.data rfl rfl,.fnL ⟨.ptrL rfl ⟨.ptrL rfl ⟨.data rfl rfl,.data rfl rfl,.data rfl rfl,.data rfl rfl,.data rfl rfl,.data rfl rfl,.data rfl rfl,.data rfl rfl,.data rfl rfl,.data rfl rfl,.data rfl rfl,.data rfl rfl,.data rfl rfl,.mp rfl,.mp rfl,.mp rfl,.data rfl rfl,trivial⟩,trivial⟩,.data rfl rfl,trivial⟩,.data rfl rfl,.fnL ⟨.ptrL rfl ⟨.ptrL rfl ⟨.data rfl rfl,.data rfl rfl,.data rfl rfl,.data rfl rfl,.data rfl rfl,.data rfl rfl,.data rfl rfl,.data rfl rfl,.data rfl rfl,.data rfl rfl,.data rfl rfl,.data rfl rfl,.data rfl rfl,.mp rfl,.mp rfl,.mp rfl,.data rfl rfl,trivial⟩,trivial⟩,.data rfl rfl,trivial⟩,.data rfl rfl,.fnL ⟨.data rfl rfl,.ptrL rfl ⟨.ptrL rfl ⟨.data rfl rfl,.data rfl rfl,.data rfl rfl,.data rfl rfl,.data rfl rfl,.data rfl rfl,.data rfl rfl,.data rfl rfl,.data rfl rfl,.data rfl rfl,.data rfl rfl,.data rfl rfl,.data rfl rfl,.mp rfl,.mp rfl,.mp rfl,.data rfl rfl,trivial⟩,trivial⟩,trivial⟩,.data rfl rfl,.fnL ⟨.ptrL rfl ⟨.ptrL rfl ⟨.data rfl rfl,.data rfl rfl,.data rfl rfl,.data rfl rfl,.data rfl rfl,.data rfl rfl,.data rfl rfl,.data rfl rfl,.data rfl rfl,.data rfl rfl,.data rfl rfl,.data rfl rfl,.data rfl rfl,.mp rfl,.mp rfl,.mp rfl,.data rfl rfl,trivial⟩,trivial⟩,.data rfl rfl,.data rfl rfl,trivial⟩,.data rfl rfl,trivial⟩,trivial⟩ rfl) ?_ rfl rfl rfl
 refine JLm (I64 r7) O (G5 (hK4 (Js fun hK8=>Jr fun hK9=>(JLm (I64 r7) O (JLh (BL (decide (r7≠0))) (Ge8 O O O) O (G5 (hK9 (JCc O h (fun h hb=>?_) (fun h hb=>?_)))))))))
 ·
  refine Jr fun hK10=>(JLm (I64 r7) O (JLm (I64 r7) O (G5 (hK10 (Gq ?_)))))
  obtain rfl:=Option.some.inj h
  exact⟨[I64 r7],[(1196,.box 97 (Ez m)),(1197,TP 93 Slot.kv Box.av m.on),(1198,TP 94 (fun n:Int=>Value.int .i64 n) Box.av m.quay),(1199,TP 95 (fun n:Int=>Value.int .i64 n) I64 m.open_)],⟨⟨_,rfl,.boxL rfl (.sm O O)⟩,⟨_,rfl,.map⟩,⟨_,rfl,.map⟩,⟨_,rfl,.map⟩,G⟩,rfl,⟨⟨_,rfl,.conv (.same rfl)⟩,G⟩,rfl,rfl⟩
 ·
  refine Gr (hK8 (Js fun hK11=>?_))
  refine Qc (l':=[(2,.ptr 1081 0),(3,Ee x),(5,Eh v3)]) (L':=[(1196,.box 97 (Ez m)),(1197,TP 93 Slot.kv Box.av m.on),(1198,TP 94 (fun n:Int=>Value.int .i64 n) Box.av m.quay),(1199,TP 95 (fun n:Int=>Value.int .i64 n) I64 m.open_),(1081,.box 39 [.ptr 1196 0]),(1084,.box 148 [.fn 130 [.dptr [BL (decide (x.G8=0))]],I64 310,.fn 130 [.dptr [BL (Gt.has m.quay x.Box)]],I64 313,.fn 87 [.ptr 1081 0,Ee x,Eh v3],I64 316,.fn 88 [.ptr 1081 0,Ee x],I64 315,.fn 89 [.ptr 1081 0,Ee x],I64 317,.fn 91 [.dptr (Move.cs x),.ptr 1081 0],I64 318,.fn 94 [.ptr 1081 0,Ee x,Eh v3],I64 319])]) ⟨(.sm O O),⟨⟨_,rfl,.boxL rfl (.sm O O)⟩,⟨_,rfl,.map⟩,⟨_,rfl,.map⟩,⟨_,rfl,.map⟩,⟨_,rfl,.boxL rfl ⟨.same rfl,G⟩⟩,⟨_,rfl,.boxL rfl (.sm O O)⟩,G⟩,rfl⟩ ?_
  refine J4 [6] [0,0,0,0,0,0,0] [0,0,0,0,0,0,0] [[(1196,.box 97 (Ez m)),(1197,TP 93 Slot.kv Box.av m.on),(1198,TP 94 (fun n:Int=>Value.int .i64 n) Box.av m.quay),(1199,TP 95 (fun n:Int=>Value.int .i64 n) I64 m.open_),(1081,.box 39 [.ptr 1196 0]),(1084,.box 148 [.fn 130 [.dptr [BL (decide (x.G8=0))]],I64 310,.fn 130 [.dptr [BL (Gt.has m.quay x.Box)]],I64 313,.fn 87 [.ptr 1081 0,Ee x,Eh v3],I64 316,.fn 88 [.ptr 1081 0,Ee x],I64 315,.fn 89 [.ptr 1081 0,Ee x],I64 317,.fn 91 [.dptr (Move.cs x),.ptr 1081 0],I64 318,.fn 94 [.ptr 1081 0,Ee x,Eh v3],I64 319])],((1198,TP 94 (fun n:Int=>Value.int .i64 n) Box.av (Gt.del m.quay x.Box))::[(1196,.box 97 (Ez m)),(1197,TP 93 Slot.kv Box.av m.on),(1198,TP 94 (fun n:Int=>Value.int .i64 n) Box.av m.quay),(1199,TP 95 (fun n:Int=>Value.int .i64 n) I64 m.open_),(1081,.box 39 [.ptr 1196 0]),(1084,.box 148 [.fn 130 [.dptr [BL (decide (x.G8=0))]],I64 310,.fn 130 [.dptr [BL (Gt.has m.quay x.Box)]],I64 313,.fn 87 [.ptr 1081 0,Ee x,Eh v3],I64 316,.fn 88 [.ptr 1081 0,Ee x],I64 315,.fn 89 [.ptr 1081 0,Ee x],I64 317,.fn 91 [.dptr (Move.cs x),.ptr 1081 0],I64 318,.fn 94 [.ptr 1081 0,Ee x,Eh v3],I64 319])])] J0 (by kernel_rfl) rfl rfl ?_
  refine Gd (u:=.ptr 1196 0) O O ⟨Ge (Hx Hw O O O O) O,G⟩ (Gd (u:=.ptr 1196 0) O O ⟨Ge (Rk O O) O,G⟩ (Gd (u:=.ptr 1196 14) O O ⟨Ge (Hh G1c O O) O,G⟩ (Gd (u:=.mp 1198) O O ⟨Ge (Hx G15 O O O O) O,G⟩ (Gd (u:=.dptr ((Move.cs x).drop 1)) O O ⟨Ge (G9 Yf O O O) O,G⟩ (Gd (u:=I64 x.Box) O O ⟨Ge (Gg Gc O O O) O,G⟩ (H85 (u:=.tup []) O O O O (Ge (Hf9 (m:=m.quay) (a:=x.Box) (fun _=>O) O O O O Q44 H04) O) (Qw (hK11 (Js fun hK12=>?_)))))))))
  refine Qc (l':=[(2,.ptr 1081 0),(3,Ee x),(5,Eh v3)]) (L':=[(1196,.box 97 (Ez m)),(1197,TP 93 Slot.kv Box.av m.on),(1198,TP 94 (fun n:Int=>Value.int .i64 n) Box.av (Gt.del m.quay x.Box)),(1199,TP 95 (fun n:Int=>Value.int .i64 n) I64 m.open_),(1081,.box 39 [.ptr 1196 0]),(1084,.box 148 [.fn 130 [.dptr [BL (decide (x.G8=0))]],I64 310,.fn 130 [.dptr [BL (Gt.has m.quay x.Box)]],I64 313,.fn 87 [.ptr 1081 0,Ee x,Eh v3],I64 316,.fn 88 [.ptr 1081 0,Ee x],I64 315,.fn 89 [.ptr 1081 0,Ee x],I64 317,.fn 91 [.dptr (Move.cs x),.ptr 1081 0],I64 318,.fn 94 [.ptr 1081 0,Ee x,Eh v3],I64 319])]) ⟨(.sm O O),⟨⟨_,rfl,.boxL rfl (.sm O O)⟩,⟨_,rfl,.map⟩,⟨_,rfl,.map⟩,⟨_,rfl,.map⟩,⟨_,rfl,.boxL rfl ⟨.same rfl,G⟩⟩,⟨_,rfl,.boxL rfl (.sm O O)⟩,G⟩,rfl⟩ ?_
  refine J4 [7] [0,0,0,0,0,0,0,0] [0,0,0,0,0,0,0,0] [[(1196,.box 97 (Ez m)),(1197,TP 93 Slot.kv Box.av m.on),(1198,TP 94 (fun n:Int=>Value.int .i64 n) Box.av (Gt.del m.quay x.Box)),(1199,TP 95 (fun n:Int=>Value.int .i64 n) I64 m.open_),(1081,.box 39 [.ptr 1196 0]),(1084,.box 148 [.fn 130 [.dptr [BL (decide (x.G8=0))]],I64 310,.fn 130 [.dptr [BL (Gt.has m.quay x.Box)]],I64 313,.fn 87 [.ptr 1081 0,Ee x,Eh v3],I64 316,.fn 88 [.ptr 1081 0,Ee x],I64 315,.fn 89 [.ptr 1081 0,Ee x],I64 317,.fn 91 [.dptr (Move.cs x),.ptr 1081 0],I64 318,.fn 94 [.ptr 1081 0,Ee x,Eh v3],I64 319])],((1197,TP 93 Slot.kv Box.av (Gt.put m.on x.Slot v3))::[(1196,.box 97 (Ez m)),(1197,TP 93 Slot.kv Box.av m.on),(1198,TP 94 (fun n:Int=>Value.int .i64 n) Box.av (Gt.del m.quay x.Box)),(1199,TP 95 (fun n:Int=>Value.int .i64 n) I64 m.open_),(1081,.box 39 [.ptr 1196 0]),(1084,.box 148 [.fn 130 [.dptr [BL (decide (x.G8=0))]],I64 310,.fn 130 [.dptr [BL (Gt.has m.quay x.Box)]],I64 313,.fn 87 [.ptr 1081 0,Ee x,Eh v3],I64 316,.fn 88 [.ptr 1081 0,Ee x],I64 315,.fn 89 [.ptr 1081 0,Ee x],I64 317,.fn 91 [.dptr (Move.cs x),.ptr 1081 0],I64 318,.fn 94 [.ptr 1081 0,Ee x,Eh v3],I64 319])])] J0 (by kernel_rfl) rfl rfl ?_
  refine Gd (u:=.ptr 1196 0) O O ⟨Ge (Hx Hw O O O O) O,G⟩ (Gd (u:=.ptr 1196 0) O O ⟨Ge (Rk O O) O,G⟩ (Gd (u:=.ptr 1196 13) O O ⟨Ge (Hh Ye O O) O,G⟩ (Gd (u:=.mp 1197) O O ⟨Ge (Hx Yh O O O O) O,G⟩ (Gd (u:=.dptr ((Move.cs x).drop 2)) O O ⟨Ge (G9 Jv O O O) O,G⟩ (Gd (u:=.agg (Slot.cs x.Slot)) O O ⟨Ge (Gi Hu O O O) O,G⟩ (Gd (u:=.agg (Box.cs v3)) O O ⟨Ge (Gi Yj O O O) O,G⟩ (H85 (u:=.junk) O O O O (Ge (G69 (m:=m.on) (a:=x.Slot) (v:=v3) (fun _=>O) O O O O O O Qe0 G4a) O) (Qw (hK12 ?_)))))))))
  refine Jr fun hK13=>(JLh (.ptr 1196 0) (Hx Hw O O O O) O (JLh (.ptr 1196 0) (Rk O O) O (JLh (.ptr 1196 16) (Hh Gbc O O) O (JLh (I64 m.lifts) (Hx Gc O O O O) O ?_))))
  obtain⟨v14,hv14,h⟩:=Jd h
  refine JLh (I64 v14) (Jf hv14 O O O) O (JLh (.ptr 1196 0) (Rk O O) O (JLh (.ptr 1196 16) (Hh Gbc O O) O (Ho (u:=.junk) (Hc (u:=I64 v14) (ds:=[E1 m.ship.Columns,E7 m.ship.Covers,I64 m.ship.Light.Kilos,I64 m.ship.Light.X,I64 m.ship.Light.Y,I64 m.ship.Light.Z,E3 m.ship.Rows,E4 m.ship.Frames,E5 m.ship.Tanks,I64 m.ship.G4.Tolerance,I64 m.ship.G4.Trim,I64 m.ship.G4.List_,I64 m.ship.G4.Stability,.mp 1197,.mp 1198,.mp 1199,I64 v14]) G2b O O O O O O O O) (G5 (hK13 (Jr fun hK15=>(JLm (I64 0) O (G5 (hK15 (Gq ?_))))))))))
  obtain rfl:=Option.some.inj h
  exact⟨[I64 0],[(1196,.box 97 [E1 m.ship.Columns,E7 m.ship.Covers,I64 m.ship.Light.Kilos,I64 m.ship.Light.X,I64 m.ship.Light.Y,I64 m.ship.Light.Z,E3 m.ship.Rows,E4 m.ship.Frames,E5 m.ship.Tanks,I64 m.ship.G4.Tolerance,I64 m.ship.G4.Trim,I64 m.ship.G4.List_,I64 m.ship.G4.Stability,.mp 1197,.mp 1198,.mp 1199,I64 v14]),(1197,TP 93 Slot.kv Box.av (Gt.put m.on x.Slot v3)),(1198,TP 94 (fun n:Int=>Value.int .i64 n) Box.av (Gt.del m.quay x.Box)),(1199,TP 95 (fun n:Int=>Value.int .i64 n) I64 m.open_)],⟨⟨_,rfl,.boxL rfl (.sm O O)⟩,⟨_,rfl,.map⟩,⟨_,rfl,.map⟩,⟨_,rfl,.map⟩,G⟩,rfl,⟨⟨_,rfl,.conv (.same rfl)⟩,G⟩,rfl,rfl⟩

def G19 (m:Gb) (x:Move):Option (Int×Gb):=
 jp (fun kj7=>
  bif decide (x.Kind=1) then
  (kj7 (decide (x.Kind=1)))
  else
  (kj7 (decide (x.Kind=4)))) fun(j7:Bool)=>
 bif j7 then
 (bnd (G0e m (Move.mk x.Kind x.Box x.Slot x.G8)) fun r10=>
  some (r10.1,r10.2))
 else
 (bif decide (x.Kind=2) then
  (bnd (Gc7 m (Move.mk x.Kind x.Box x.Slot x.G8)) fun r13=>
   some (r13.1,r13.2))
  else
  (bif decide (x.Kind=3) then
   (bnd (Gf6 m (Move.mk x.Kind x.Box x.Slot x.G8)) fun r16=>
    some (r16.1,r16.2))
   else
   (some (310,m))))
abbrev K0 (m:Gb):List AV:=[E1 m.ship.Columns,E7 m.ship.Covers,I64 m.ship.Light.Kilos,I64 m.ship.Light.X,I64 m.ship.Light.Y,I64 m.ship.Light.Z,E3 m.ship.Rows,E4 m.ship.Frames,E5 m.ship.Tanks,I64 m.ship.G4.Tolerance,I64 m.ship.G4.Trim,I64 m.ship.G4.List_,I64 m.ship.G4.Stability,.mp 1197,.mp 1198,.mp 1199,I64 m.lifts]
theorem G9d (m:Gb) (x:Move) (r:Int×Gb) (h:G19 m x=some r):Jg Eo 8 [.ptr 1196 0,.agg (Move.cs x)] [(1196,.box 97 [E1 m.ship.Columns,E7 m.ship.Covers,I64 m.ship.Light.Kilos,I64 m.ship.Light.X,I64 m.ship.Light.Y,I64 m.ship.Light.Z,E3 m.ship.Rows,E4 m.ship.Frames,E5 m.ship.Tanks,I64 m.ship.G4.Tolerance,I64 m.ship.G4.Trim,I64 m.ship.G4.List_,I64 m.ship.G4.Stability,.mp 1197,.mp 1198,.mp 1199,I64 m.lifts]),(1197,TP 93 Slot.kv Box.av m.on),(1198,TP 94 (fun n:Int=>Value.int .i64 n) Box.av m.quay),(1199,TP 95 (fun n:Int=>Value.int .i64 n) I64 m.open_)] (fun av L'=>av=I64 r.1∧L'=[(1196,.box 97 [E1 r.2.ship.Columns,E7 r.2.ship.Covers,I64 r.2.ship.Light.Kilos,I64 r.2.ship.Light.X,I64 r.2.ship.Light.Y,I64 r.2.ship.Light.Z,E3 r.2.ship.Rows,E4 r.2.ship.Frames,E5 r.2.ship.Tanks,I64 r.2.ship.G4.Tolerance,I64 r.2.ship.G4.Trim,I64 r.2.ship.G4.List_,I64 r.2.ship.G4.Stability,.mp 1197,.mp 1198,.mp 1199,I64 r.2.lifts]),(1197,TP 93 Slot.kv Box.av r.2.on),(1198,TP 94 (fun n:Int=>Value.int .i64 n) Box.av r.2.quay),(1199,TP 95 (fun n:Int=>Value.int .i64 n) I64 r.2.open_)]):=by
 unfold G19 at h
 refine Q9 [1196,1197,1198,1199] [.tmp 4] Tryz.func8 O O (G4e O) (Jr fun hK1=>(JLh (.ptr 1021 0) (Jk (cs:=[U8 x.Kind,I64 x.Box,I64 x.Slot.G2,I64 x.Slot.Tier,U8 x.Slot.Half,I64 x.G8]) 1021 O O O O O) O (JLm (I64 0) O (G5 (hK1 ?_)))))
 refine Gm [(0,.ptr 1196 0),(3,Ee x)] [(1196,.box 97 (K0 m)),(1197,TP 93 Slot.kv Box.av m.on),(1198,TP 94 (fun n:Int=>Value.int .i64 n) Box.av m.quay),(1199,TP 95 (fun n:Int=>Value.int .i64 n) I64 m.open_)] 1021 rfl rfl rfl ⟨⟨_,rfl,.boxEq rfl rfl⟩,⟨_,rfl,.map⟩,⟨_,rfl,.map⟩,⟨_,rfl,.map⟩,G⟩ rfl (by exact⟨.conv (.same rfl),.ptr,G⟩) (Js fun hK2=>?_)
 refine Jr fun hK3=>(JLm (.ptr 1196 0) O (JLh (BL true) (Z8 (args:=[.dptr (Gb.cs m)]) O (Yo m true O) G86 ⟨.ptrL O ⟨.data O O,.data O O,.data O O,.data O O,.data O O,.data O O,.data O O,.data O O,.data O O,.data O O,.data O O,.data O O,.data O O,.mp O,.mp O,.mp O,.data O O,G⟩,G⟩ O) O (JLh (BL false) (Qx (b:=true) O O) O (G5 (hK3 (G27 O (Gr (hK2 (Js fun hK5=>Jr fun hK6=>(JLh (Ee x) (G9 G74 O O O) O (JLh (U8 x.Kind) (Gg Hn O O O) O (G5 (hK6 (Gw ?_))))))))))))))
 obtain⟨kj7,hkj7,h⟩:=Yu h
 refine Rg (fun j7:Bool=>kj7 j7=some r) (fun j7=>[(0,.ptr 1196 0),(3,Ee x),(9,U8 x.Kind),(10,BL j7)]) (fun j7=>[(1196,.box 97 (K0 m)),(1197,TP 93 Slot.kv Box.av m.on),(1198,TP 94 (fun n:Int=>Value.int .i64 n) Box.av m.quay),(1199,TP 95 (fun n:Int=>Value.int .i64 n) I64 m.open_)]) (fun Kj7 ej7=>?_) ?_
 ·
  refine Jr fun hK8=>(JLh (BL (decide (x.Kind=1))) (Q0 O O O) O (JLm (BL (decide (x.Kind=1))) O (G5 (hK8 (JCc O h (fun h hb=>?_) (fun h hb=>?_))))))
  ·
   refine Gr (ej7 _ _ (decide (x.Kind=1)) h ⟨(.sm O O),⟨⟨_,rfl,.boxL rfl (.sm O O)⟩,⟨_,rfl,.map⟩,⟨_,rfl,.map⟩,⟨_,rfl,.map⟩,G⟩,rfl⟩)
  ·
   refine G1 (JLh (BL (decide (x.Kind=4))) (Q0 O O O) O (JLm (BL (decide (x.Kind=4))) O (G5 (ej7 _ _ (decide (x.Kind=4)) h ⟨(.sm O O),⟨⟨_,rfl,.boxL rfl (.sm O O)⟩,⟨_,rfl,.map⟩,⟨_,rfl,.map⟩,⟨_,rfl,.map⟩,G⟩,rfl⟩))))
 ·intro j7 h
  replace h:=app1 hkj7 h
  refine JCc O h ?_ ?_<;>intro h hb
  ·
   refine Jr fun hK9=>(JLm (.ptr 1196 0) O (JLh (.agg (Move.cs x)) (Gi G2c O O O) O ?_))
   obtain⟨r10,hr10,h⟩:=Ga h
   refine JLh (I64 r10.1) (Rs (args:=[.ptr 1196 0,.agg (Move.cs x)]) (L0:=[(1196,.box 97 (K0 m)),(1197,TP 93 Slot.kv Box.av m.on),(1198,TP 94 (fun n:Int=>Value.int .i64 n) Box.av m.quay),(1199,TP 95 (fun n:Int=>Value.int .i64 n) I64 m.open_)]) (Lr:=[(1196,.box 97 [E1 r10.2.ship.Columns,E7 r10.2.ship.Covers,I64 r10.2.ship.Light.Kilos,I64 r10.2.ship.Light.X,I64 r10.2.ship.Light.Y,I64 r10.2.ship.Light.Z,E3 r10.2.ship.Rows,E4 r10.2.ship.Frames,E5 r10.2.ship.Tanks,I64 r10.2.ship.G4.Tolerance,I64 r10.2.ship.G4.Trim,I64 r10.2.ship.G4.List_,I64 r10.2.ship.G4.Stability,.mp 1197,.mp 1198,.mp 1199,I64 r10.2.lifts]),(1197,TP 93 Slot.kv Box.av r10.2.on),(1198,TP 94 (fun n:Int=>Value.int .i64 n) Box.av r10.2.quay),(1199,TP 95 (fun n:Int=>Value.int .i64 n) I64 r10.2.open_)]) O (Jb5 m (Move.mk x.Kind x.Box x.Slot x.G8) r10 hr10) Rcd ⟨.inl O,O,.inl O,O,G⟩ ⟨O,O,O,O,G⟩ O O O) O (JLm (I64 r10.1) O (G5 (hK9 ?_)))
   refine Gq ?_
   obtain rfl:=Option.some.inj h
   exact⟨[I64 r10.1],[(1196,.box 97 [E1 r10.2.ship.Columns,E7 r10.2.ship.Covers,I64 r10.2.ship.Light.Kilos,I64 r10.2.ship.Light.X,I64 r10.2.ship.Light.Y,I64 r10.2.ship.Light.Z,E3 r10.2.ship.Rows,E4 r10.2.ship.Frames,E5 r10.2.ship.Tanks,I64 r10.2.ship.G4.Tolerance,I64 r10.2.ship.G4.Trim,I64 r10.2.ship.G4.List_,I64 r10.2.ship.G4.Stability,.mp 1197,.mp 1198,.mp 1199,I64 r10.2.lifts]),(1197,TP 93 Slot.kv Box.av r10.2.on),(1198,TP 94 (fun n:Int=>Value.int .i64 n) Box.av r10.2.quay),(1199,TP 95 (fun n:Int=>Value.int .i64 n) I64 r10.2.open_)],⟨⟨_,rfl,.boxL rfl (.sm O O)⟩,⟨_,rfl,.map⟩,⟨_,rfl,.map⟩,⟨_,rfl,.map⟩,G⟩,rfl,⟨⟨_,rfl,.conv (.same rfl)⟩,G⟩,rfl,rfl⟩
  ·
   refine Jr fun hK11=>(JLh (BL (decide (x.Kind=2))) (Q0 O O O) O (JLm (BL (decide (x.Kind=2))) O (G5 (hK11 (JCc O h (fun h hb=>?_) (fun h hb=>?_))))))
   ·
    refine Jr fun hK12=>(JLm (.ptr 1196 0) O (JLh (.agg (Move.cs x)) (Gi G2c O O O) O ?_))
    obtain⟨r13,hr13,h⟩:=Ga h
    refine JLh (I64 r13.1) (Rs (args:=[.ptr 1196 0,.agg (Move.cs x)]) (L0:=[(1196,.box 97 (K0 m)),(1197,TP 93 Slot.kv Box.av m.on),(1198,TP 94 (fun n:Int=>Value.int .i64 n) Box.av m.quay),(1199,TP 95 (fun n:Int=>Value.int .i64 n) I64 m.open_)]) (Lr:=[(1196,.box 97 [E1 r13.2.ship.Columns,E7 r13.2.ship.Covers,I64 r13.2.ship.Light.Kilos,I64 r13.2.ship.Light.X,I64 r13.2.ship.Light.Y,I64 r13.2.ship.Light.Z,E3 r13.2.ship.Rows,E4 r13.2.ship.Frames,E5 r13.2.ship.Tanks,I64 r13.2.ship.G4.Tolerance,I64 r13.2.ship.G4.Trim,I64 r13.2.ship.G4.List_,I64 r13.2.ship.G4.Stability,.mp 1197,.mp 1198,.mp 1199,I64 r13.2.lifts]),(1197,TP 93 Slot.kv Box.av r13.2.on),(1198,TP 94 (fun n:Int=>Value.int .i64 n) Box.av r13.2.quay),(1199,TP 95 (fun n:Int=>Value.int .i64 n) I64 r13.2.open_)]) O (Q2c m (Move.mk x.Kind x.Box x.Slot x.G8) r13 hr13) Rcc ⟨.inl O,O,.inl O,O,G⟩ ⟨O,O,O,O,G⟩ O O O) O (JLm (I64 r13.1) O (G5 (hK12 ?_)))
    refine Gq ?_
    obtain rfl:=Option.some.inj h
    exact⟨[I64 r13.1],[(1196,.box 97 [E1 r13.2.ship.Columns,E7 r13.2.ship.Covers,I64 r13.2.ship.Light.Kilos,I64 r13.2.ship.Light.X,I64 r13.2.ship.Light.Y,I64 r13.2.ship.Light.Z,E3 r13.2.ship.Rows,E4 r13.2.ship.Frames,E5 r13.2.ship.Tanks,I64 r13.2.ship.G4.Tolerance,I64 r13.2.ship.G4.Trim,I64 r13.2.ship.G4.List_,I64 r13.2.ship.G4.Stability,.mp 1197,.mp 1198,.mp 1199,I64 r13.2.lifts]),(1197,TP 93 Slot.kv Box.av r13.2.on),(1198,TP 94 (fun n:Int=>Value.int .i64 n) Box.av r13.2.quay),(1199,TP 95 (fun n:Int=>Value.int .i64 n) I64 r13.2.open_)],⟨⟨_,rfl,.boxL rfl (.sm O O)⟩,⟨_,rfl,.map⟩,⟨_,rfl,.map⟩,⟨_,rfl,.map⟩,G⟩,rfl,⟨⟨_,rfl,.conv (.same rfl)⟩,G⟩,rfl,rfl⟩
   ·
    refine Jr fun hK14=>(JLh (BL (decide (x.Kind=3))) (Q0 O O O) O (JLm (BL (decide (x.Kind=3))) O (G5 (hK14 (JCc O h (fun h hb=>?_) (fun h hb=>?_))))))
    ·
     refine Jr fun hK15=>(JLm (.ptr 1196 0) O (JLh (.agg (Move.cs x)) (Gi G2c O O O) O ?_))
     obtain⟨r16,hr16,h⟩:=Ga h
     refine JLh (I64 r16.1) (Rs (args:=[.ptr 1196 0,.agg (Move.cs x)]) (L0:=[(1196,.box 97 (K0 m)),(1197,TP 93 Slot.kv Box.av m.on),(1198,TP 94 (fun n:Int=>Value.int .i64 n) Box.av m.quay),(1199,TP 95 (fun n:Int=>Value.int .i64 n) I64 m.open_)]) (Lr:=[(1196,.box 97 [E1 r16.2.ship.Columns,E7 r16.2.ship.Covers,I64 r16.2.ship.Light.Kilos,I64 r16.2.ship.Light.X,I64 r16.2.ship.Light.Y,I64 r16.2.ship.Light.Z,E3 r16.2.ship.Rows,E4 r16.2.ship.Frames,E5 r16.2.ship.Tanks,I64 r16.2.ship.G4.Tolerance,I64 r16.2.ship.G4.Trim,I64 r16.2.ship.G4.List_,I64 r16.2.ship.G4.Stability,.mp 1197,.mp 1198,.mp 1199,I64 r16.2.lifts]),(1197,TP 93 Slot.kv Box.av r16.2.on),(1198,TP 94 (fun n:Int=>Value.int .i64 n) Box.av r16.2.quay),(1199,TP 95 (fun n:Int=>Value.int .i64 n) I64 r16.2.open_)]) O (Qb0 m (Move.mk x.Kind x.Box x.Slot x.G8) r16 hr16) Rcb ⟨.inl O,O,.inl O,O,G⟩ ⟨O,O,O,O,G⟩ O O O) O (JLm (I64 r16.1) O (G5 (hK15 ?_)))
     refine Gq ?_
     obtain rfl:=Option.some.inj h
     exact⟨[I64 r16.1],[(1196,.box 97 [E1 r16.2.ship.Columns,E7 r16.2.ship.Covers,I64 r16.2.ship.Light.Kilos,I64 r16.2.ship.Light.X,I64 r16.2.ship.Light.Y,I64 r16.2.ship.Light.Z,E3 r16.2.ship.Rows,E4 r16.2.ship.Frames,E5 r16.2.ship.Tanks,I64 r16.2.ship.G4.Tolerance,I64 r16.2.ship.G4.Trim,I64 r16.2.ship.G4.List_,I64 r16.2.ship.G4.Stability,.mp 1197,.mp 1198,.mp 1199,I64 r16.2.lifts]),(1197,TP 93 Slot.kv Box.av r16.2.on),(1198,TP 94 (fun n:Int=>Value.int .i64 n) Box.av r16.2.quay),(1199,TP 95 (fun n:Int=>Value.int .i64 n) I64 r16.2.open_)],⟨⟨_,rfl,.boxL rfl (.sm O O)⟩,⟨_,rfl,.map⟩,⟨_,rfl,.map⟩,⟨_,rfl,.map⟩,G⟩,rfl,⟨⟨_,rfl,.conv (.same rfl)⟩,G⟩,rfl,rfl⟩
    ·
     refine Gr (hK5 (Jr fun hK17=>(JLm (I64 310) O (G5 (hK17 (Gq ?_))))))
     obtain rfl:=Option.some.inj h
     exact⟨[I64 310],[(1196,.box 97 (K0 m)),(1197,TP 93 Slot.kv Box.av m.on),(1198,TP 94 (fun n:Int=>Value.int .i64 n) Box.av m.quay),(1199,TP 95 (fun n:Int=>Value.int .i64 n) I64 m.open_)],⟨⟨_,rfl,.boxL rfl (.sm O O)⟩,⟨_,rfl,.map⟩,⟨_,rfl,.map⟩,⟨_,rfl,.map⟩,G⟩,rfl,⟨⟨_,rfl,.conv (.same rfl)⟩,G⟩,rfl,rfl⟩
end
end Go.Proofs.YtidpfkmbfgihlaaGreat
