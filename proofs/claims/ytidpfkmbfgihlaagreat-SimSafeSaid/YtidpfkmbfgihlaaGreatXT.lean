/- Walks of functions. -/
import Derived.Test.YtidpfkmbfgihlaaGreatSpecK
set_option maxRecDepth 100000
set_option maxHeartbeats 1000000
set_option linter.unusedVariables false
set_option linter.unusedSimpArgs false
namespace Go.Proofs.YtidpfkmbfgihlaaGreat
open Go.RowKit
noncomputable section
structure Move where
 Kind:Int
 Box:Int
 Slot:Slot
 G8:Int
 deriving DecidableEq,Inhabited
def Move.cs (x:Move):List AV:=[U8 x.Kind,I64 x.Box,I64 x.Slot.G2,I64 x.Slot.Tier,U8 x.Slot.Half,I64 x.G8]
abbrev Ed (x:Move):AV:=.dptr (Move.cs x)
namespace XTF
open XAF
open XCF
open XSF
open XKF
theorem G33:Gf6 Eo 45 6=true:=by kernel_rfl
theorem Gdb:H7 Eo 130=true:=by kernel_rfl
theorem R60:H7 Eo 132=true:=by kernel_rfl
theorem Rdb:H7 Eo 35=true:=by kernel_rfl
theorem Rda:H7 Eo 36=true:=by kernel_rfl
theorem Rd9:H7 Eo 37=true:=by kernel_rfl
theorem J71:H7 Eo 58=true:=by kernel_rfl
theorem J70:H7 Eo 73=true:=by kernel_rfl
theorem J6f:H7 Eo 74=true:=by kernel_rfl
theorem Rc7:H7 Eo 77=true:=by kernel_rfl
theorem J6e:H7 Eo 78=true:=by kernel_rfl
theorem Rc6:H7 Eo 79=true:=by kernel_rfl
theorem J6d:H7 Eo 80=true:=by kernel_rfl
theorem H0b:H7 Eo 81=true:=by kernel_rfl
theorem Rc5:H7 Eo 82=true:=by kernel_rfl
theorem Rc4:H7 Eo 83=true:=by kernel_rfl
theorem Q63:H7 Eo 84=true:=by kernel_rfl
theorem Rc3:H7 Eo 85=true:=by kernel_rfl
theorem Q62:H7 Eo 86=true:=by kernel_rfl
theorem Rc2:H7 Eo 87=true:=by kernel_rfl
theorem Rc1:H7 Eo 88=true:=by kernel_rfl
theorem Rc0:H7 Eo 89=true:=by kernel_rfl
theorem Rbf:H7 Eo 90=true:=by kernel_rfl
theorem Rbe:H7 Eo 91=true:=by kernel_rfl
theorem Rbd:H7 Eo 92=true:=by kernel_rfl
theorem Rbc:H7 Eo 93=true:=by kernel_rfl
theorem Rbb:H7 Eo 94=true:=by kernel_rfl
theorem Q61:H7 Eo 95=true:=by kernel_rfl
theorem G7b:Jk Eo 45 0 0=true:=by kernel_rfl
theorem Yi:Jk Eo 45 1 1=true:=by kernel_rfl
theorem Jw:Jk Eo 45 2 2=true:=by kernel_rfl
theorem Y1:Jk Eo 45 3 5=true:=by kernel_rfl
theorem G22:Jk Eo 97 2 14=true:=by kernel_rfl
theorem Hw:Y6 Eo 39=true:=by kernel_rfl
theorem G32:Yx Eo 3 1=true:=by kernel_rfl
theorem H60:Yx Eo 4 1=true:=by kernel_rfl
theorem Rb6:Y4 Eo 4 1=true:=by kernel_rfl
theorem J97:(Eo.info? 60).bind (·.zero)=some (.agg #[E0,.string ByteArray.empty,.int .u8 0,.bool false,E0,E0,E0,.int .u8 0,.bool false]):=by kernel_rfl
end XTF
open XAF
open XCF
open XSF
open XKF
open XTF

def G1a (y:Slot) (a:Gb) (c:Move):Option Bool:=
 Z3 a.ship.Columns y.G2 fun b=>
 bnd (bif b.Deck then Yg a.ship y.G2 else some default) fun d=>
 some (b.Deck&&(decide (d=c.G8)))
theorem J10 (y:Slot) (b:Gb) (a:Move) (r:Bool) (h:G1a y b a=some r):Pure Eo 79 [.agg [I64 y.G2,I64 y.Tier,U8 y.Half],.dptr [.dptr (Gb.cs b)],.dptr [U8 a.Kind,I64 a.Box,I64 a.Slot.G2,I64 a.Slot.Tier,U8 a.Slot.Half,I64 a.G8]] (·=BL r):=by
 unfold G1a at h
 refine H0 [.tmp 4] Tryz.func79 O O (Jr fun e=>(JLh (.ptr 1138 0) (Jm (cs:=[I64 y.G2,I64 y.Tier,U8 y.Half]) 1138 O O O O O) O (JLm (BL false) O (G5 (e (Gm [(1,.dptr [.dptr (Gb.cs b)]),(2,.dptr [U8 a.Kind,I64 a.Box,I64 a.Slot.G2,I64 a.Slot.Tier,U8 a.Slot.Half,I64 a.G8]),(3,.dptr [I64 y.G2,I64 y.Tier,U8 y.Half])] [] 1138 rfl rfl rfl G rfl (by exact⟨.conv (.same rfl),.conv (.same rfl),.ptr,G⟩) (Js fun g=>?_)))))))
 obtain⟨l,c,i,j,h⟩:=Yc h
 obtain⟨d,k,h⟩:=Ga h
 refine JC_d0 J0 (by kernel_rfl) (Dq (Ee b) (Gh Hw O O O) O (Dq (Ee b) (G6e O O) O (Dq (Ee b) (G9 Re O O O) O (Dq (Ee b) (G9 Hv O O O) O (Dq (E3 b.ship.Columns) (Gh J9 O O O) O (Dq (.dptr [I64 y.G2,I64 y.Tier,U8 y.Half]) (G9 Jd O O O) O (Dq (I64 y.G2) (Gh Gc O O O) O (Dq (Ei c) (Hg (f:=G2.av) (xs:=b.ship.Columns) (y:=c) O O O Ht j i) O (Dq (.dptr ((G2.cs c).drop 2)) (G9 Yw O O O) O (Dq (BL c.Deck) (Gh Q1 O O O) O (Dq (BL c.Deck) (G6 O O) O (Do (Ee b) [] O .sct G (fun hc=>Gh Hw O O O) O (Do (Ee b) [16] O .sct ⟨Ua,G⟩ (fun hc=>G6e O O) O ?_)))))))))))))
 refine Do (Ee b) [17] O .sct ⟨Ua,G⟩ (fun hc=>G9 Re O O O) O (Do (.agg (Gk.cs b.ship)) [18] O .sct ⟨Ua,G⟩ (fun hc=>Gj Hr O O O) O (Do (.dptr [I64 y.G2,I64 y.Tier,U8 y.Half]) [] O .sct G (fun hc=>G9 Jd O O O) O (Do (I64 y.G2) [20] O .sct ⟨Ua,G⟩ (fun hc=>Gh Gc O O O) O (Do (I64 d) [19,21] O .sct ⟨Ua,Ua,G⟩ (fun hc=>Gt (args:=[.agg (Gk.cs b.ship),I64 y.G2]) O (G5d b.ship y.G2 d (H3 hc k)) H6c ⟨O,O,O,O,G⟩) O (Do (.dptr [I64 a.G8]) [] O .sct G (fun hc=>G9 Y1 O O O) O (Do (I64 a.G8) [23] O .sct ⟨Ua,G⟩ (fun hc=>Gh Gc O O O) O (Do (BL (decide (d=a.G8))) [22,24] O .sct ⟨Ua,Ua,G⟩ (fun hc=>Q0 O O O) O (Dq (BL (c.Deck&&(decide (d=a.G8)))) (Ro O O O O) O (Dq (BL (c.Deck&&(decide (d=a.G8)))) (G7 O O) O (Dnil ?_))))))))))
 refine g (Gq (fin1 BL h))

def G10 (a:Bool) (b:Gb) (c:Move):Option Bool:=
 bnd (bif (!(!a)) then G05 b (fun z0=>G1a z0 b c) else some default) fun d=>
 some ((!a)||(!d))
theorem J56 (c:Bool) (a:Gb) (d:Move) (r:Bool) (h:G10 c a d=some r):Pure Eo 77 [.dptr [BL c],.dptr [.dptr (Gb.cs a)],Ed d] (·=BL r):=by
 unfold G10 at h
 refine H0 [.tmp 3] Tryz.func77 O O (Jr fun f=>(JLm (BL false) O (G5 (f (Jr fun g=>(JLh (BL c) (Gh Q1 O O O) O (JLh (BL (!c)) (Qx (b:=c) O O) O (JLm (BL (!c)) O (JLo (Ee a) [] O .scf G (fun hc=>Gh Hw O O O) O (JLo (.fn 79 [.dptr [.dptr (Gb.cs a)],Ed d]) [] O .scf G (fun hc=>Jz (cs:=[.dptr [.dptr (Gb.cs a)],Ed d]) O O) O ?_))))))))))
 obtain⟨e,i,h⟩:=Ga h
 refine JLo (BL e) [7,8] O .scf ⟨Ua,Ua,G⟩ (fun hc=>Gt (args:=[.dptr (Gb.cs a),.fn 79 [.dptr [.dptr (Gb.cs a)],Ed d]]) O (H47.down a (fun z0=>G1a z0 a d) 79 [.dptr [.dptr (Gb.cs a)],Ed d] Rc6 O (fun z0 q hq=>J10 z0 a d q hq) e (H3 hc i)) J6e ⟨O,O,O,O,G⟩) O (JLo (BL (!e)) [9] O .scf ⟨Ua,G⟩ (fun hc=>Qx (b:=e) O O) O (JLh (BL ((!c)||(!e))) (G2f O O O O) O (JLm (BL ((!c)||(!e))) O (G5 (g (Gq (fin1 BL h)))))))

def G14 (m:Gb) (x:Move):Option (Int×Gb):=
 bnd (H3b ((((decide (x.Box=0))&&(decide (x.Slot=(Slot.mk 0 0 0))))&&(decide (0≤x.G8)))&&(decide (x.G8 < (m.ship.Covers.length:Int)))) 310) fun g=>
 bnd (some (Gu.get m.open_ x.G8 0)) fun b=>
 bnd (H3b (!((decide (0 < b))==(decide (x.Kind=1)))) 311) fun h=>
 bnd (H22 [(Z5 ((((decide (x.Box=0))&&(decide (x.Slot=(Slot.mk 0 0 0))))&&(decide (0≤x.G8)))&&(decide (x.G8 < (m.ship.Covers.length:Int)))),310),
  (Z5 (!((decide (0 < b))==(decide (x.Kind=1)))),311),
  (G10 (decide (x.Kind=1)) m (Move.mk x.Kind x.Box x.Slot x.G8),312)]) fun c=>
 bif decide (c≠0) then
 (some (c,m))
 else
 (jp (fun a=>
   bif decide (x.Kind=1) then
   (bnd (some (Gu.get m.open_ x.G8 0)) fun d=>
    chk (d+1) fun e=>
    a (Gb.mk m.ship m.on m.quay (Gu.put m.open_ x.G8 e) m.lifts))
   else
   (a (Gb.mk m.ship m.on m.quay (Gu.del m.open_ x.G8) m.lifts))) fun(f:Gb)=>
  some (0,f))
abbrev Eu (m:Gb):List AV:=[E3 m.ship.Columns,E7 m.ship.Covers,I64 m.ship.Light.Kilos,I64 m.ship.Light.X,I64 m.ship.Light.Y,I64 m.ship.Light.Z,E4 m.ship.Rows,E5 m.ship.Frames,E6 m.ship.Tanks,I64 m.ship.G4.Tolerance,I64 m.ship.G4.Trim,I64 m.ship.G4.List_,I64 m.ship.G4.Stability,.mp 1197,.mp 1198,.mp 1199,I64 m.lifts]
abbrev Ev (x:Move) (m:Gb):List AV:=[.dptr [BL ((((decide (x.Box=0))&&(decide (x.Slot=(Slot.mk 0 0 0))))&&(decide (0≤x.G8)))&&(decide (x.G8 < (m.ship.Covers.length:Int))))]]
abbrev Ew (x:Move):List AV:=[.dptr [BL (decide (x.Kind=1))],.ptr 1073 0,Ed x]
abbrev Ex (a:Gb):List AV:=[E3 a.ship.Columns,E7 a.ship.Covers,I64 a.ship.Light.Kilos,I64 a.ship.Light.X,I64 a.ship.Light.Y,I64 a.ship.Light.Z,E4 a.ship.Rows,E5 a.ship.Frames,E6 a.ship.Tanks,I64 a.ship.G4.Tolerance,I64 a.ship.G4.Trim,I64 a.ship.G4.List_,I64 a.ship.G4.Stability,.mp 1197,.mp 1198,.mp 1199,I64 a.lifts]
theorem Jc0 (m:Gb) (x:Move) (r:Int×Gb) (h:G14 m x=some r):Jh Eo 35 [.ptr 1196 0,.agg (Move.cs x)] [(1196,.box 97 [E3 m.ship.Columns,E7 m.ship.Covers,I64 m.ship.Light.Kilos,I64 m.ship.Light.X,I64 m.ship.Light.Y,I64 m.ship.Light.Z,E4 m.ship.Rows,E5 m.ship.Frames,E6 m.ship.Tanks,I64 m.ship.G4.Tolerance,I64 m.ship.G4.Trim,I64 m.ship.G4.List_,I64 m.ship.G4.Stability,.mp 1197,.mp 1198,.mp 1199,I64 m.lifts]),(1197,TP 93 Slot.kv Box.av m.on),(1198,TP 94 Kq Box.av m.quay),(1199,TP 95 Kq I64 m.open_)] (fun av L'=>av=I64 r.1∧L'=[(1196,.box 97 [E3 r.2.ship.Columns,E7 r.2.ship.Covers,I64 r.2.ship.Light.Kilos,I64 r.2.ship.Light.X,I64 r.2.ship.Light.Y,I64 r.2.ship.Light.Z,E4 r.2.ship.Rows,E5 r.2.ship.Frames,E6 r.2.ship.Tanks,I64 r.2.ship.G4.Tolerance,I64 r.2.ship.G4.Trim,I64 r.2.ship.G4.List_,I64 r.2.ship.G4.Stability,.mp 1197,.mp 1198,.mp 1199,I64 r.2.lifts]),(1197,TP 93 Slot.kv Box.av r.2.on),(1198,TP 94 Kq Box.av r.2.quay),(1199,TP 95 Kq I64 r.2.open_)]):=by
 unfold G14 at h
 refine Q9 [1196,1197,1198,1199] [.tmp 4] Tryz.func35 O O (G56 O) (Jr fun s=>(JLh (.ptr 1073 0) (Jm (cs:=[.ptr 1196 0]) 1073 O O O O O) O (JLh (.ptr 1074 0) (Jm (cs:=[U8 x.Kind,I64 x.Box,I64 x.Slot.G2,I64 x.Slot.Tier,U8 x.Slot.Half,I64 x.G8]) 1074 O O O O O) O (JLm (I64 0) O (G5 (s ?_))))))
 refine Gm [(2,.ptr 1073 0),(3,Ed x)] [(1196,.box 97 (Eu m)),(1197,TP 93 Slot.kv Box.av m.on),(1198,TP 94 Kq Box.av m.quay),(1199,TP 95 Kq I64 m.open_),(1073,.box 39 [.ptr 1196 0])] 1074 rfl rfl rfl ⟨⟨_,rfl,.boxEq rfl rfl⟩,fmQ O,fmQ O,fmQ O,⟨_,rfl,.boxEq rfl rfl⟩,G⟩ rfl (by exact⟨.conv (.same rfl),.ptr,G⟩) ?_
 refine Jr fun t=>(JLh (Ed x) (G9 G7b O O O) O (JLh (U8 x.Kind) (Gh Ho O O O) O (JLh (BL (decide (x.Kind=1))) (Q0 O O O) O (JLh (.ptr 1075 0) (Hq 1075 1 Rb6 O O) O (Hp (u:=.junk) (Hc (u:=BL (decide (x.Kind=1))) (ds:=[BL (decide (x.Kind=1))]) H60 O O O O O O O O) (G5 (t ?_)))))))
 refine Gm [(2,.ptr 1073 0),(3,Ed x),(5,.dptr [BL (decide (x.Kind=1))])] [(1196,.box 97 (Eu m)),(1197,TP 93 Slot.kv Box.av m.on),(1198,TP 94 Kq Box.av m.quay),(1199,TP 95 Kq I64 m.open_),(1073,.box 39 [.ptr 1196 0])] 1075 rfl rfl rfl ⟨⟨_,rfl,.boxEq rfl rfl⟩,fmQ O,fmQ O,fmQ O,⟨_,rfl,.boxEq rfl rfl⟩,G⟩ rfl (by exact⟨.conv (.same rfl),.conv (.same rfl),.ptr,G⟩) ?_
 refine Jr fun w=>(JLh (.fn 77 (Ew x)) (Jz (cs:=(Ew x)) O O) O (JLm (.fn 77 (Ew x)) O (G5 (w (Js fun y=>?_)))))
 refine Qc (l':=[(2,.ptr 1073 0),(3,Ed x),(5,.dptr [BL (decide (x.Kind=1))]),(6,.fn 77 (Ew x))]) (L':=[(1196,.box 97 (Eu m)),(1197,TP 93 Slot.kv Box.av m.on),(1198,TP 94 Kq Box.av m.quay),(1199,TP 95 Kq I64 m.open_),(1073,.box 39 [.ptr 1196 0])]) ⟨(.sm O O),⟨fbQ O (.sm O O),fmQ O,fmQ O,fmQ O,fbQ O ⟨.same rfl,G⟩,G⟩,rfl⟩ ?_
 obtain⟨r5,z,h⟩:=Ga h
 obtain⟨c,a0,h⟩:=Ga h
 obtain⟨r7,a1,h⟩:=Ga h
 obtain⟨d,a2,h⟩:=Ga h
 refine J5 [39] [0,0,0,0,0,0,0,0,0,0,0,0,0,0,0,0,0,0,0,0,0,0,0,0,0,0,0,0,0,0,0,0,0,0,0,0,0,0,0,0,1,1] [0,0,0,0,0,0,0,0,0,0,0,0,0,0,0,0,0,0,0,0,0,0,0,0,0,0,0,0,0,0,0,0,0,0,0,0,0,0,0,0,1,1] [[(1196,.box 97 (Eu m)),(1197,TP 93 Slot.kv Box.av m.on),(1198,TP 94 Kq Box.av m.quay),(1199,TP 95 Kq I64 m.open_),(1073,.box 39 [.ptr 1196 0])],((1076,.box 148 [.fn 130 (Ev x m),I64 310,.fn 130 [.dptr [BL (!((decide (0 < c))==(decide (x.Kind=1))))]],I64 311,.fn 77 (Ew x),I64 312])::[(1196,.box 97 (Eu m)),(1197,TP 93 Slot.kv Box.av m.on),(1198,TP 94 Kq Box.av m.quay),(1199,TP 95 Kq I64 m.open_),(1073,.box 39 [.ptr 1196 0])])] J0 (by kernel_rfl) rfl rfl ?_
 refine Gd (u:=.dptr ((Move.cs x).drop 1)) O O ⟨Ge (G9 Yi O O O) O,G⟩ (Gd (u:=I64 x.Box) O O ⟨Ge (Gh Gc O O O) O,G⟩ (Gd (u:=BL (decide (x.Box=0))) O O ⟨Ge (Q0 O O O) O,G⟩ (Gd (u:=BL (decide (x.Box=0))) O O ⟨Ge (G6 O O) O,G⟩ (Gd (u:=.opt (decide (x.Box=0)) (.dptr ((Move.cs x).drop 2))) O O ⟨H6 [] O O O .sct G (fun hc=>G9 Jw O O O) O,G⟩ (Gd (u:=.opt (decide (x.Box=0)) (.agg (Slot.cs x.Slot))) O O ⟨H6 [(16,.dptr ((Move.cs x).drop 2))] O O O .sct ⟨.all id,G⟩ (fun hc=>Gj Hu O O O) O,G⟩ (Gd (u:=.opt (decide (x.Box=0)) (.agg [I64 0,I64 0,U8 0])) O O ⟨H6 [] O O O .sct G (fun hc=>Hb (cs:=[I64 0,I64 0,U8 0]) [(0,1),(1,1),(2,1)] [I64 0,I64 0,U8 0] [E0,E0,.int .u8 0] Gac Gd1 (zzQ O) O O) O,G⟩ (Gd (u:=.opt (decide (x.Box=0)) (BL (decide (x.Slot=(Slot.mk 0 0 0))))) O O ⟨H6 [(17,.agg (Slot.cs x.Slot)),(18,.agg [I64 0,I64 0,U8 0])] O O O .sct ⟨.all id,.all id,G⟩ (fun hc=>R48 (vs:=[.int .i64 x.Slot.G2,.int .i64 x.Slot.Tier,.int .u8 x.Slot.Half]) (us:=[E0,E0,.int .u8 0]) 4 O (Y85 x.Slot (Slot.mk 0 0 0)) Q0e Qed O O O) O,G⟩ (Gd (u:=BL ((decide (x.Box=0))&&(decide (x.Slot=(Slot.mk 0 0 0))))) O O ⟨Ge (Ro O O O O) O,G⟩ (Gd (u:=BL ((decide (x.Box=0))&&(decide (x.Slot=(Slot.mk 0 0 0))))) O O ⟨Ge (G6 O O) O,G⟩ (Gd (u:=.opt ((decide (x.Box=0))&&(decide (x.Slot=(Slot.mk 0 0 0)))) (.dptr [I64 x.G8])) O O ⟨H6 [] O O O .sct G (fun hc=>G9 Y1 O O O) O,G⟩ (Gd (u:=.opt ((decide (x.Box=0))&&(decide (x.Slot=(Slot.mk 0 0 0)))) (I64 x.G8)) O O ⟨H6 [(22,.dptr [I64 x.G8])] O O O .sct ⟨.all id,G⟩ (fun hc=>Gh Gc O O O) O,G⟩ (Gd (u:=.opt ((decide (x.Box=0))&&(decide (x.Slot=(Slot.mk 0 0 0)))) (BL (decide (0≤x.G8)))) O O ⟨H6 [(23,I64 x.G8)] O O O .sct ⟨.all id,G⟩ (fun hc=>H01 O O O) O,G⟩ (Gd (u:=BL (((decide (x.Box=0))&&(decide (x.Slot=(Slot.mk 0 0 0))))&&(decide (0≤x.G8)))) O O ⟨Ge (Ro O O O O) O,G⟩ ?_)))))))))))))
 refine Gd (u:=BL (((decide (x.Box=0))&&(decide (x.Slot=(Slot.mk 0 0 0))))&&(decide (0≤x.G8)))) O O ⟨Ge (G6 O O) O,G⟩ (Gd (u:=.opt (((decide (x.Box=0))&&(decide (x.Slot=(Slot.mk 0 0 0))))&&(decide (0≤x.G8))) (.dptr [I64 x.G8])) O O ⟨H6 [] O O O .sct G (fun hc=>G9 Y1 O O O) O,G⟩ (Gd (u:=.opt (((decide (x.Box=0))&&(decide (x.Slot=(Slot.mk 0 0 0))))&&(decide (0≤x.G8))) (I64 x.G8)) O O ⟨H6 [(27,.dptr [I64 x.G8])] O O O .sct ⟨.all id,G⟩ (fun hc=>Gh Gc O O O) O,G⟩ (Gd (u:=.opt (((decide (x.Box=0))&&(decide (x.Slot=(Slot.mk 0 0 0))))&&(decide (0≤x.G8))) (.ptr 1196 0)) O O ⟨H6 [] O O O .sct G (fun hc=>Hx Hw O O O O) O,G⟩ (Gd (u:=.opt (((decide (x.Box=0))&&(decide (x.Slot=(Slot.mk 0 0 0))))&&(decide (0≤x.G8))) (.ptr 1196 0)) O O ⟨H6 [(29,.ptr 1196 0)] O O O .sct ⟨.all id,G⟩ (fun hc=>Rn O O) O,G⟩ (Gd (u:=.opt (((decide (x.Box=0))&&(decide (x.Slot=(Slot.mk 0 0 0))))&&(decide (0≤x.G8))) (.ptr 1196 0)) O O ⟨H6 [(30,.ptr 1196 0)] O O O .sct ⟨.all id,G⟩ (fun hc=>Hi Re O O) O,G⟩ (Gd (u:=.opt (((decide (x.Box=0))&&(decide (x.Slot=(Slot.mk 0 0 0))))&&(decide (0≤x.G8))) (.ptr 1196 1)) O O ⟨H6 [(31,.ptr 1196 0)] O O O .sct ⟨.all id,G⟩ (fun hc=>Hi Jp O O) O,G⟩ (Gd (u:=.opt (((decide (x.Box=0))&&(decide (x.Slot=(Slot.mk 0 0 0))))&&(decide (0≤x.G8))) (E7 m.ship.Covers)) O O ⟨H6 [(32,.ptr 1196 1)] O O O .sct ⟨.all id,G⟩ (fun hc=>Hx Qa O O O O) O,G⟩ (Gd (u:=.opt (((decide (x.Box=0))&&(decide (x.Slot=(Slot.mk 0 0 0))))&&(decide (0≤x.G8))) (En m.ship.Covers.length)) O O ⟨H6 [(33,E7 m.ship.Covers)] O O O .sct ⟨.all id,G⟩ (fun hc=>G20 (f:=G8.av) (xs:=m.ship.Covers) Jj O O) O,G⟩ (Gd (u:=.opt (((decide (x.Box=0))&&(decide (x.Slot=(Slot.mk 0 0 0))))&&(decide (0≤x.G8))) (BL (decide (x.G8 < (m.ship.Covers.length:Int))))) O O ⟨H6 [(28,I64 x.G8),(34,En m.ship.Covers.length)] O O O .sct ⟨.all id,.all id,G⟩ (fun hc=>Qg O O O) O,G⟩ (Gd (u:=BL ((((decide (x.Box=0))&&(decide (x.Slot=(Slot.mk 0 0 0))))&&(decide (0≤x.G8)))&&(decide (x.G8 < (m.ship.Covers.length:Int))))) O O ⟨Ge (Ro O O O O) O,G⟩ (Gd (u:=.agg [.fn 130 (Ev x m),I64 310]) O O ⟨Ge (Gt O (H17 ((((decide (x.Box=0))&&(decide (x.Slot=(Slot.mk 0 0 0))))&&(decide (0≤x.G8)))&&(decide (x.G8 < (m.ship.Covers.length:Int)))) 310 r5 z) H0b ⟨O,O,O,O,G⟩) O,G⟩ (Gd (u:=.ptr 1196 0) O O ⟨Ge (Hx Hw O O O O) O,G⟩ (Gd (u:=.ptr 1196 0) O O ⟨Ge (Rn O O) O,G⟩ ?_)))))))))))))
 refine Gd (u:=.ptr 1196 15) O O ⟨Ge (Hi G78 O O) O,G⟩ (Gd (u:=.mp 1199) O O ⟨Ge (Hx G65 O O O O) O,G⟩ (Gd (u:=.dptr [I64 x.G8]) O O ⟨Ge (G9 Y1 O O O) O,G⟩ (Gd (u:=I64 x.G8) O O ⟨Ge (Gh Gc O O O) O,G⟩ (Gd (u:=I64 c) O O ⟨Ge (((M5 a0) ▸ J8f (av:=I64) (m:=m.open_) (a:=x.G8) 0 E0 (fun _=>O) O (.own O) O Q50 H62 H50 O)) O,G⟩ (Gd (u:=BL (decide (0 < c))) O O ⟨Ge (Gbe O O O) O,G⟩ (Gd (u:=BL (decide (x.Kind=1))) O O ⟨Ge (Gh Q1 O O O) O,G⟩ (Gd (u:=BL (!((decide (0 < c))==(decide (x.Kind=1))))) O O ⟨Ge (Ra9 H63 O O O) O,G⟩ (Gd (u:=.agg [.fn 130 [.dptr [BL (!((decide (0 < c))==(decide (x.Kind=1))))]],I64 311]) O O ⟨Ge (Gt O (H17 (!((decide (0 < c))==(decide (x.Kind=1)))) 311 r7 a1) H0b ⟨O,O,O,O,G⟩) O,G⟩ (Gd (u:=.fn 77 (Ew x)) O O ⟨Ge (G6 O O) O,G⟩ (Gd (u:=.agg [.fn 77 (Ew x),I64 312]) O O ⟨Ge (Hb (cs:=[.fn 77 (Ew x),I64 312]) [(0,1),(1,1)] [.sc .nilFunc,I64 0] [.nilFunc,E0] G02 G21 (zzQ O) O O) O,G⟩ (D_w (u:=.ms 1076 0 3 3) O O O O (Ge (Jf7 1076 (xs:=[.agg [.fn 130 (Ev x m),I64 310],.agg [.fn 130 [.dptr [BL (!((decide (0 < c))==(decide (x.Kind=1))))]],I64 311],.agg [.fn 77 (Ew x),I64 312]]) (cs:=[.fn 130 (Ev x m),I64 310,.fn 130 [.dptr [BL (!((decide (0 < c))==(decide (x.Kind=1))))]],I64 311,.fn 77 (Ew x),I64 312]) O ⟨O,O,O,G⟩ O Gee H51 O O O O O) O) ?_)))))))))))
 refine Gd (u:=I64 d) O O ⟨Ge (Zc O (Q9f.down [J6.mk 130 (Ev x m) (Z5 ((((decide (x.Box=0))&&(decide (x.Slot=(Slot.mk 0 0 0))))&&(decide (0≤x.G8)))&&(decide (x.G8 < (m.ship.Covers.length:Int))))) 310 Gdb O (fun q hq=>Gb5 ((((decide (x.Box=0))&&(decide (x.Slot=(Slot.mk 0 0 0))))&&(decide (0≤x.G8)))&&(decide (x.G8 < (m.ship.Covers.length:Int)))) q hq),
 J6.mk 130 [.dptr [BL (!((decide (0 < c))==(decide (x.Kind=1))))]] (Z5 (!((decide (0 < c))==(decide (x.Kind=1))))) 311 Gdb rfl (fun q hq=>Gb5 (!((decide (0 < c))==(decide (x.Kind=1)))) q hq),
 J6.mk 77 [.dptr [BL (decide (x.Kind=1))],.dptr [.dptr (Gb.cs m)],Ed x] (G10 (decide (x.Kind=1)) m (Move.mk x.Kind x.Box x.Slot x.G8)) 312 Rc7 rfl (fun q hq=>J56 (decide (x.Kind=1)) m (Move.mk x.Kind x.Box x.Slot x.G8) q hq)] d a2) J6d ⟨.msL rfl rfl rfl ⟨.data O O,.data O O,.data O O,.data O O,.fnL ⟨.data O O,.ptrL rfl ⟨.ptrL rfl (dnQ 13 O O ⟨.mp rfl,.mp rfl,.mp rfl,.data O O,trivial⟩),trivial⟩,.data O O,trivial⟩,.data O O,trivial⟩,trivial⟩ rfl) rfl,trivial⟩ ?_ rfl
 refine Gd (u:=I64 d) O O ⟨Ge (G7 O O) O,G⟩ (Qw (y (Js fun a3=>Jr fun i=>(JLm (I64 d) O (JLh (BL (decide (d≠0))) (Gec O O O) O (G5 (i (JCc O h (fun h hb=>?_) (fun h hb=>?_)))))))))
 ·
  refine Jr fun j=>(JLm (I64 d) O (JLm (I64 d) O (G5 (j (Gq ?_)))))
  obtain rfl:=M5 h
  exact⟨[I64 d],[(1196,.box 97 (Eu m)),(1197,TP 93 Slot.kv Box.av m.on),(1198,TP 94 Kq Box.av m.quay),(1199,TP 95 Kq I64 m.open_)],⟨fbQ O (.sm O O),fmQ O,fmQ O,fmQ O,G⟩,rfl,⟨⟨_,rfl,.conv (.same rfl)⟩,G⟩,rfl,rfl⟩
 ·
  refine Gr (a3 ?_)
  obtain⟨k,g,h⟩:=Yy h
  refine Ri (fun b:Gb=>k b=some r) (fun b=>[]) (fun b=>[(1196,.box 97 (Ex b)),(1197,TP 93 Slot.kv Box.av b.on),(1198,TP 94 Kq Box.av b.quay),(1199,TP 95 Kq I64 b.open_),(1073,.box 39 [.ptr 1196 0]),(1076,.box 148 [.fn 130 (Ev x m),I64 310,.fn 130 [.dptr [BL (!((decide (0 < c))==(decide (x.Kind=1))))]],I64 311,.fn 77 (Ew x),I64 312])]) (fun Kj12 ej12=>?_) ?_
  ·
   refine Jr fun l=>(JLh (BL (decide (x.Kind=1))) (Gh Q1 O O O) O (G5 (l (JCc O h (fun h hb=>?_) (fun h hb=>?_)))))
   ·
    refine Qc (l':=[(2,.ptr 1073 0),(3,Ed x)]) (L':=[(1196,.box 97 (Eu m)),(1197,TP 93 Slot.kv Box.av m.on),(1198,TP 94 Kq Box.av m.quay),(1199,TP 95 Kq I64 m.open_),(1073,.box 39 [.ptr 1196 0]),(1076,.box 148 [.fn 130 (Ev x m),I64 310,.fn 130 [.dptr [BL (!((decide (0 < c))==(decide (x.Kind=1))))]],I64 311,.fn 77 (Ew x),I64 312])]) ⟨(.sm O O),⟨fbQ O (.sm O O),fmQ O,fmQ O,fmQ O,fbQ O ⟨.same rfl,G⟩,fbQ O (.sm O O),G⟩,rfl⟩ ?_
    obtain⟨a4,n,h⟩:=Ga h
    obtain⟨e,o,h⟩:=Je h
    refine J5 [8] [0,0,0,0,0,0,0,0,0] [0,0,0,0,0,0,0,0,0] [[(1196,.box 97 (Eu m)),(1197,TP 93 Slot.kv Box.av m.on),(1198,TP 94 Kq Box.av m.quay),(1199,TP 95 Kq I64 m.open_),(1073,.box 39 [.ptr 1196 0]),(1076,.box 148 [.fn 130 (Ev x m),I64 310,.fn 130 [.dptr [BL (!((decide (0 < c))==(decide (x.Kind=1))))]],I64 311,.fn 77 (Ew x),I64 312])],((1199,TP 95 Kq I64 (Gu.put m.open_ x.G8 e))::[(1196,.box 97 (Eu m)),(1197,TP 93 Slot.kv Box.av m.on),(1198,TP 94 Kq Box.av m.quay),(1199,TP 95 Kq I64 m.open_),(1073,.box 39 [.ptr 1196 0]),(1076,.box 148 [.fn 130 (Ev x m),I64 310,.fn 130 [.dptr [BL (!((decide (0 < c))==(decide (x.Kind=1))))]],I64 311,.fn 77 (Ew x),I64 312])])] J0 (by kernel_rfl) rfl rfl ?_
    refine Gd (u:=.ptr 1196 0) O O ⟨Ge (Hx Hw O O O O) O,G⟩ (Gd (u:=.ptr 1196 0) O O ⟨Ge (Rn O O) O,G⟩ (Gd (u:=.ptr 1196 15) O O ⟨Ge (Hi G78 O O) O,G⟩ (Gd (u:=.mp 1199) O O ⟨Ge (Hx G65 O O O O) O,G⟩ (Gd (u:=.dptr [I64 x.G8]) O O ⟨Ge (G9 Y1 O O O) O,G⟩ (Gd (u:=I64 x.G8) O O ⟨Ge (Gh Gc O O O) O,G⟩ (Gd (u:=I64 a4) O O ⟨Ge (((M5 n) ▸ J8f (av:=I64) (m:=m.open_) (a:=x.G8) 0 E0 (fun _=>O) O (.own O) O Q50 H62 H50 O)) O,G⟩ (Gd (u:=I64 e) O O ⟨Ge (Jg o O O O) O,G⟩ (H8d (u:=.junk) O O O O (Ge (G6f (m:=m.open_) (a:=x.G8) (v:=e) (fun _=>O) O O O O O O Q50 H62) O) (Qw ?_)))))))))
    exact ej12 _ _ (Gb.mk m.ship m.on m.quay (Gu.put m.open_ x.G8 e) m.lifts) h ⟨G,⟨fbQ O (.sm O O),fmQ O,fmQ O,fmQ O,fbQ O ⟨.same rfl,G⟩,fbQ O (.sm O O),G⟩,rfl⟩
   ·
    refine Qc (l':=[(2,.ptr 1073 0),(3,Ed x)]) (L':=[(1196,.box 97 (Eu m)),(1197,TP 93 Slot.kv Box.av m.on),(1198,TP 94 Kq Box.av m.quay),(1199,TP 95 Kq I64 m.open_),(1073,.box 39 [.ptr 1196 0]),(1076,.box 148 [.fn 130 (Ev x m),I64 310,.fn 130 [.dptr [BL (!((decide (0 < c))==(decide (x.Kind=1))))]],I64 311,.fn 77 (Ew x),I64 312])]) ⟨(.sm O O),⟨fbQ O (.sm O O),fmQ O,fmQ O,fmQ O,fbQ O ⟨.same rfl,G⟩,fbQ O (.sm O O),G⟩,rfl⟩ ?_
    refine J5 [6] [0,0,0,0,0,0,0] [0,0,0,0,0,0,0] [[(1196,.box 97 (Eu m)),(1197,TP 93 Slot.kv Box.av m.on),(1198,TP 94 Kq Box.av m.quay),(1199,TP 95 Kq I64 m.open_),(1073,.box 39 [.ptr 1196 0]),(1076,.box 148 [.fn 130 (Ev x m),I64 310,.fn 130 [.dptr [BL (!((decide (0 < c))==(decide (x.Kind=1))))]],I64 311,.fn 77 (Ew x),I64 312])],((1199,TP 95 Kq I64 (Gu.del m.open_ x.G8))::[(1196,.box 97 (Eu m)),(1197,TP 93 Slot.kv Box.av m.on),(1198,TP 94 Kq Box.av m.quay),(1199,TP 95 Kq I64 m.open_),(1073,.box 39 [.ptr 1196 0]),(1076,.box 148 [.fn 130 (Ev x m),I64 310,.fn 130 [.dptr [BL (!((decide (0 < c))==(decide (x.Kind=1))))]],I64 311,.fn 77 (Ew x),I64 312])])] J0 (by kernel_rfl) rfl rfl ?_
    refine Gd (u:=.ptr 1196 0) O O ⟨Ge (Hx Hw O O O O) O,G⟩ (Gd (u:=.ptr 1196 0) O O ⟨Ge (Rn O O) O,G⟩ (Gd (u:=.ptr 1196 15) O O ⟨Ge (Hi G78 O O) O,G⟩ (Gd (u:=.mp 1199) O O ⟨Ge (Hx G65 O O O O) O,G⟩ (Gd (u:=.dptr [I64 x.G8]) O O ⟨Ge (G9 Y1 O O O) O,G⟩ (Gd (u:=I64 x.G8) O O ⟨Ge (Gh Gc O O O) O,G⟩ (H8d (u:=.tup []) O O O O (Ge (Hfe (m:=m.open_) (a:=x.G8) (fun _=>O) O O O O Q50 H62) O) (Qw (ej12 _ _ (Gb.mk m.ship m.on m.quay (Gu.del m.open_ x.G8) m.lifts) h ⟨G,⟨fbQ O (.sm O O),fmQ O,fmQ O,fmQ O,fbQ O ⟨.same rfl,G⟩,fbQ O (.sm O O),G⟩,rfl⟩))))))))
  ·intro b h
   replace h:=app1 g h
   refine Jr fun p=>(JLm (I64 0) O (G5 (p (Gq ?_))))
   obtain rfl:=M5 h
   exact⟨[I64 0],[(1196,.box 97 (Ex b)),(1197,TP 93 Slot.kv Box.av b.on),(1198,TP 94 Kq Box.av b.quay),(1199,TP 95 Kq I64 b.open_)],⟨fbQ O (.sm O O),fmQ O,fmQ O,fmQ O,G⟩,rfl,⟨⟨_,rfl,.conv (.same rfl)⟩,G⟩,rfl,rfl⟩

def G43 (y:Slot) (a:Move):Option Bool:=
 bnd (Ge7 y a.Slot) fun b=>
 some b
theorem J55 (y:Slot) (a:Move) (r:Bool) (h:G43 y a=some r):Pure Eo 83 [.agg [I64 y.G2,I64 y.Tier,U8 y.Half],Ed a] (·=BL r):=by
 unfold G43 at h
 refine H0 [.tmp 3] Tryz.func83 O O (Jr fun c=>(JLh (.ptr 1142 0) (Jm (cs:=[I64 y.G2,I64 y.Tier,U8 y.Half]) 1142 O O O O O) O (JLm (BL false) O (G5 (c (Gm [(1,Ed a),(2,.dptr [I64 y.G2,I64 y.Tier,U8 y.Half])] [] 1142 rfl rfl rfl G rfl (by exact⟨.conv (.same rfl),.ptr,G⟩) (Jr fun d=>(JLh (.agg [I64 y.G2,I64 y.Tier,U8 y.Half]) (Gj Hu O O O) O (JLh (.dptr ((Move.cs a).drop 2)) (G9 Jw O O O) O (JLh (.agg (Slot.cs a.Slot)) (Gj Hu O O O) O ?_))))))))))
 obtain⟨b,e,h⟩:=Ga h
 refine JLh (BL b) (Gt O (J66 y a.Slot b e) Q63 ⟨O,O,O,O,G⟩) O (JLm (BL b) O (G5 (d (Gq (fin1 BL h)))))

def G74 (a:Gb) (b:Move):Option Bool:=
 bnd (G05 a (fun z0=>G43 z0 b)) fun c=>
 some (!c)
theorem Jbf (d:Gb) (a:Move) (r:Bool) (h:G74 d a=some r):Pure Eo 82 [.dptr [.dptr (Gb.cs d)],Ed a] (·=BL r):=by
 unfold G74 at h
 refine H0 [.tmp 2] Tryz.func82 O O (Jr fun e=>(JLm (BL false) O (G5 (e (Jr fun f=>(JLh (Ee d) (Gh Hw O O O) O (JLh (.fn 83 [.dptr (Move.cs a)]) (Jz (cs:=[.dptr (Move.cs a)]) O O) O ?_)))))))
 obtain⟨c,g,h⟩:=Ga h
 refine JLh (BL c) (Gt O (H47.down d (fun z0=>G43 z0 a) 83 [.dptr (Move.cs a)] Rc4 O (fun z0 q hq=>J55 z0 a q hq) c g) J6e ⟨O,O,O,O,G⟩) O (JLh (BL (!c)) (Qx (b:=c) O O) O (JLm (BL (!c)) O (G5 (f (Gq (fin1 BL h))))))

def G73 (a:Gb) (b:Move):Option Bool:=
 Z3 a.ship.Columns b.Slot.G2 fun c=>
 bnd (bif (!c.Deck) then G59 a b.Slot else some default) fun d=>
 some (c.Deck||(!d))
theorem Jbe (a:Gb) (c:Move) (r:Bool) (h:G73 a c=some r):Pure Eo 85 [.dptr [.dptr (Gb.cs a)],Ed c] (·=BL r):=by
 unfold G73 at h
 refine H0 [.tmp 2] Tryz.func85 O O (Jr fun g=>(JLm (BL false) O (G5 (g (Js fun i=>?_)))))
 obtain⟨m,d,j,k,h⟩:=Yc h
 obtain⟨e,l,h⟩:=Ga h
 refine JC_d0 J0 (by kernel_rfl) (Dq (Ee a) (Gh Hw O O O) O (Dq (Ee a) (G6e O O) O (Dq (Ee a) (G9 Re O O O) O (Dq (Ee a) (G9 Hv O O O) O (Dq (E3 a.ship.Columns) (Gh J9 O O O) O (Dq (.dptr ((Move.cs c).drop 2)) (G9 Jw O O O) O (Dq (.dptr ((Move.cs c).drop 2)) (G9 Jd O O O) O (Dq (I64 c.Slot.G2) (Gh Gc O O O) O (Dq (Ei d) (Hg (f:=G2.av) (xs:=a.ship.Columns) (y:=d) O O O Ht k j) O (Dq (.dptr ((G2.cs d).drop 2)) (G9 Yw O O O) O (Dq (BL d.Deck) (Gh Q1 O O O) O (Dq (BL d.Deck) (G6 O O) O (Do (Ee a) [] O .scf G (fun hc=>Gh Hw O O O) O ?_)))))))))))))
 refine Do (.dptr ((Move.cs c).drop 2)) [] O .scf G (fun hc=>G9 Jw O O O) O (Do (.agg (Slot.cs c.Slot)) [16] O .scf ⟨Ua,G⟩ (fun hc=>Gj Hu O O O) O (Do (BL e) [15,17] O .scf ⟨Ua,Ua,G⟩ (fun hc=>Gt (args:=[.dptr (Gb.cs a),.agg (Slot.cs c.Slot)]) O (Hc9 a c.Slot e (H3 hc l)) Q62 ⟨O,O,O,O,G⟩) O (Do (BL (!e)) [18] O .scf ⟨Ua,G⟩ (fun hc=>Qx (b:=e) O O) O (Dq (BL (d.Deck||(!e))) (G2f O O O O) O (Dq (BL (d.Deck||(!e))) (G7 O O) O (Dnil (i (Gq (fin1 BL h)))))))))

def Gcb (m:Gb) (x:Move):Option (Int×Gb):=
 bnd (some (Gu.get m.on x.Slot (Box.mk 0 ByteArray.empty 0 false 0 0 0 0 false))) fun a=>
 bnd (H3b (decide (x.G8=0)) 310) fun d=>
 bnd (H3b ((Gu.has m.on x.Slot)&&(decide (a.ID=x.Box))) 313) fun e=>
 bnd (H22 [(Z5 (decide (x.G8=0)),310),
  (Z5 ((Gu.has m.on x.Slot)&&(decide (a.ID=x.Box))),313),
  (G74 m (Move.mk x.Kind x.Box x.Slot x.G8),314),
  (G73 m (Move.mk x.Kind x.Box x.Slot x.G8),315)]) fun b=>
 bif decide (b≠0) then
 (some (b,m))
 else
 (chk (m.lifts+1) fun c=>
  some (0,(Gb.mk m.ship (Gu.del m.on x.Slot) (Gu.put m.quay a.ID a) m.open_ c)))
abbrev Ey (m:Gb):List AV:=[E3 m.ship.Columns,E7 m.ship.Covers,I64 m.ship.Light.Kilos,I64 m.ship.Light.X,I64 m.ship.Light.Y,I64 m.ship.Light.Z,E4 m.ship.Rows,E5 m.ship.Frames,E6 m.ship.Tanks,I64 m.ship.G4.Tolerance,I64 m.ship.G4.Trim,I64 m.ship.G4.List_,I64 m.ship.G4.Stability,.mp 1197,.mp 1198,.mp 1199,I64 m.lifts]
theorem Q38 (m:Gb) (x:Move) (r:Int×Gb) (h:Gcb m x=some r):Jh Eo 36 [.ptr 1196 0,.agg (Move.cs x)] [(1196,.box 97 [E3 m.ship.Columns,E7 m.ship.Covers,I64 m.ship.Light.Kilos,I64 m.ship.Light.X,I64 m.ship.Light.Y,I64 m.ship.Light.Z,E4 m.ship.Rows,E5 m.ship.Frames,E6 m.ship.Tanks,I64 m.ship.G4.Tolerance,I64 m.ship.G4.Trim,I64 m.ship.G4.List_,I64 m.ship.G4.Stability,.mp 1197,.mp 1198,.mp 1199,I64 m.lifts]),(1197,TP 93 Slot.kv Box.av m.on),(1198,TP 94 Kq Box.av m.quay),(1199,TP 95 Kq I64 m.open_)] (fun av L'=>av=I64 r.1∧L'=[(1196,.box 97 [E3 r.2.ship.Columns,E7 r.2.ship.Covers,I64 r.2.ship.Light.Kilos,I64 r.2.ship.Light.X,I64 r.2.ship.Light.Y,I64 r.2.ship.Light.Z,E4 r.2.ship.Rows,E5 r.2.ship.Frames,E6 r.2.ship.Tanks,I64 r.2.ship.G4.Tolerance,I64 r.2.ship.G4.Trim,I64 r.2.ship.G4.List_,I64 r.2.ship.G4.Stability,.mp 1197,.mp 1198,.mp 1199,I64 r.2.lifts]),(1197,TP 93 Slot.kv Box.av r.2.on),(1198,TP 94 Kq Box.av r.2.quay),(1199,TP 95 Kq I64 r.2.open_)]):=by
 unfold Gcb at h
 refine Q9 [1196,1197,1198,1199] [.tmp 4] Tryz.func36 O O (G56 O) (Jr fun n=>(JLh (.ptr 1077 0) (Jm (cs:=[.ptr 1196 0]) 1077 O O O O O) O (JLh (.ptr 1078 0) (Jm (cs:=[U8 x.Kind,I64 x.Box,I64 x.Slot.G2,I64 x.Slot.Tier,U8 x.Slot.Half,I64 x.G8]) 1078 O O O O O) O (JLm (I64 0) O (G5 (n ?_))))))
 refine Gm [(2,.ptr 1077 0),(3,Ed x)] [(1196,.box 97 (Ey m)),(1197,TP 93 Slot.kv Box.av m.on),(1198,TP 94 Kq Box.av m.quay),(1199,TP 95 Kq I64 m.open_),(1077,.box 39 [.ptr 1196 0])] 1078 rfl rfl rfl ⟨⟨_,rfl,.boxEq rfl rfl⟩,fmQ O,fmQ O,fmQ O,⟨_,rfl,.boxEq rfl rfl⟩,G⟩ rfl (by exact⟨.conv (.same rfl),.ptr,G⟩) ?_
 refine Js fun o=>?_
 refine Qc (l':=[(2,.ptr 1077 0),(3,Ed x)]) (L':=[(1196,.box 97 (Ey m)),(1197,TP 93 Slot.kv Box.av m.on),(1198,TP 94 Kq Box.av m.quay),(1199,TP 95 Kq I64 m.open_),(1077,.box 39 [.ptr 1196 0])]) ⟨(.sm O O),⟨fbQ O (.sm O O),fmQ O,fmQ O,fmQ O,fbQ O ⟨.same rfl,G⟩,G⟩,rfl⟩ ?_
 obtain⟨b,e,h⟩:=Ga h
 refine J5 [10,11] [0,0,0,0,0,0,0,0,0,0,0,0,2] [1,1,1,1,1,1,1,1,1,2,0,0,2] [[(1196,.box 97 (Ey m)),(1197,TP 93 Slot.kv Box.av m.on),(1198,TP 94 Kq Box.av m.quay),(1199,TP 95 Kq I64 m.open_),(1077,.box 39 [.ptr 1196 0])],((1079,.box 60 [.junk,.junk,.junk,.junk,.junk,.junk,.junk,.junk,.junk])::[(1196,.box 97 (Ey m)),(1197,TP 93 Slot.kv Box.av m.on),(1198,TP 94 Kq Box.av m.quay),(1199,TP 95 Kq I64 m.open_),(1077,.box 39 [.ptr 1196 0])]),((1079,.box 60 (Box.cs b))::((1079,.box 60 [.junk,.junk,.junk,.junk,.junk,.junk,.junk,.junk,.junk])::[(1196,.box 97 (Ey m)),(1197,TP 93 Slot.kv Box.av m.on),(1198,TP 94 Kq Box.av m.quay),(1199,TP 95 Kq I64 m.open_),(1077,.box 39 [.ptr 1196 0])]))] J0 (by kernel_rfl) rfl rfl ?_
 refine Gd (u:=.ptr 1196 0) O O ⟨Ge (Hx Hw O O O O) O,Ge (Hx Hw O O O O) O,G⟩ (Gd (u:=.ptr 1196 0) O O ⟨Ge (Rn O O) O,Ge (Rn O O) O,G⟩ (Gd (u:=.ptr 1196 13) O O ⟨Ge (Hi Yh O O) O,Ge (Hi Yh O O) O,G⟩ (Gd (u:=.mp 1197) O O ⟨Ge (Hx Yj O O O O) O,Ge (Hx Yj O O O O) O,G⟩ (Gd (u:=.dptr ((Move.cs x).drop 2)) O O ⟨Ge (G9 Jw O O O) O,Ge (G9 Jw O O O) O,G⟩ (Gd (u:=.agg (Slot.cs x.Slot)) O O ⟨Ge (Gj Hu O O O) O,Ge (Gj Hu O O O) O,G⟩ (Gd (u:=.tup [.agg (Box.cs b),BL (Gu.has m.on x.Slot)]) O O ⟨Ge (((M5 e) ▸ Hff (av:=Box.av) (m:=m.on) (a:=x.Slot) (Box.mk 0 ByteArray.empty 0 false 0 0 0 0 false) (.agg #[E0,.string ByteArray.empty,.int .u8 0,.bool false,E0,E0,E0,.int .u8 0,.bool false]) (fun _=>O) O (.own O) O Qeb G52 J97 O)) O,Ge (((M5 e) ▸ Hff (av:=Box.av) (m:=m.on) (a:=x.Slot) (Box.mk 0 ByteArray.empty 0 false 0 0 0 0 false) (.agg #[E0,.string ByteArray.empty,.int .u8 0,.bool false,E0,E0,E0,.int .u8 0,.bool false]) (fun _=>O) O (.own O) O Qeb G52 J97 O)) O,G⟩ (Gd (u:=.tup [.agg (Box.cs b),BL (Gu.has m.on x.Slot)]) O O ⟨Ge (G6 O O) O,Ge (G6 O O) O,G⟩ (Gd (u:=.agg (Box.cs b)) O O ⟨Ge (H1 O O O) O,Ge (H1 O O O) O,G⟩ (Gd (u:=BL (Gu.has m.on x.Slot)) O O ⟨Ge (H1 O O O) O,Ge (H1 O O O) O,Ge (H1 O O O) O,G⟩ (D_w (u:=.ptr 1079 0) O O O O (Ge (Hq 1079 9 Qt O O) O) (H8d (u:=.junk) O O O O (Ge (Hc (u:=.agg (Box.cs b)) (ds:=(Box.cs b)) Rs O O O O O O O O) O) (Gd (u:=BL (Gu.has m.on x.Slot)) O O ⟨Ge (G7 O O) O,G⟩ (Qw ?_)))))))))))))
 refine o ?_
 refine fzQ [(2,.ptr 1077 0),(3,Ed x),(5,Eh b),(6,BL (Gu.has m.on x.Slot))] [(1196,.box 97 (Ey m)),(1197,TP 93 Slot.kv Box.av m.on),(1198,TP 94 Kq Box.av m.quay),(1199,TP 95 Kq I64 m.open_),(1077,.box 39 [.ptr 1196 0])] 1079 rfl rfl rfl ⟨⟨_,rfl,.boxEq rfl rfl⟩,fmQ O,fmQ O,fmQ O,⟨_,rfl,.boxEq rfl rfl⟩,G⟩ rfl ?_
 refine Jr fun p=>(JLh (.dptr [I64 x.G8]) (G9 Y1 O O O) O (JLh (I64 x.G8) (Gh Gc O O O) O (JLh (BL (decide (x.G8=0))) (Q0 O O O) O ?_)))
 obtain⟨r5,s,h⟩:=Ga h
 refine JLh (.agg [.fn 130 [.dptr [BL (decide (x.G8=0))]],I64 310]) (Gt O (H17 (decide (x.G8=0)) 310 r5 s) H0b ⟨O,O,O,O,G⟩) O (JLm (BL (Gu.has m.on x.Slot)) O (JLm (BL (Gu.has m.on x.Slot)) O (JLo (Eh b) [] O .sct G (fun hc=>G9 Rf O O O) O (JLo (I64 b.ID) [24] O .sct ⟨Ua,G⟩ (fun hc=>Gh Gc O O O) O (JLo (.dptr ((Move.cs x).drop 1)) [] O .sct G (fun hc=>G9 Yi O O O) O (JLo (I64 x.Box) [26] O .sct ⟨Ua,G⟩ (fun hc=>Gh Gc O O O) O (JLo (BL (decide (b.ID=x.Box))) [25,27] O .sct ⟨Ua,Ua,G⟩ (fun hc=>Q0 O O O) O (JLh (BL ((Gu.has m.on x.Slot)&&(decide (b.ID=x.Box)))) (Ro O O O O) O ?_))))))))
 obtain⟨r6,t,h⟩:=Ga h
 refine JLh (.agg [.fn 130 [.dptr [BL ((Gu.has m.on x.Slot)&&(decide (b.ID=x.Box)))]],I64 313]) (Gt O (H17 ((Gu.has m.on x.Slot)&&(decide (b.ID=x.Box))) 313 r6 t) H0b ⟨O,O,O,O,G⟩) O (JLh (.fn 82 [.ptr 1077 0,Ed x]) (Jz (cs:=[.ptr 1077 0,Ed x]) O O) O (JLh (.agg [.fn 82 [.ptr 1077 0,Ed x],I64 314]) (Hb (cs:=[.fn 82 [.ptr 1077 0,Ed x],I64 314]) [(0,1),(1,1)] [.sc .nilFunc,I64 0] [.nilFunc,E0] G02 G21 (zzQ O) O O) O (JLh (.fn 85 [.ptr 1077 0,Ed x]) (Jz (cs:=[.ptr 1077 0,Ed x]) O O) O (JLh (.agg [.fn 85 [.ptr 1077 0,Ed x],I64 315]) (Hb (cs:=[.fn 85 [.ptr 1077 0,Ed x],I64 315]) [(0,1),(1,1)] [.sc .nilFunc,I64 0] [.nilFunc,E0] G02 G21 (zzQ O) O O) O (JLh (.ms 1080 0 4 4) (Jf7 1080 (xs:=[.agg [.fn 130 [.dptr [BL (decide (x.G8=0))]],I64 310],.agg [.fn 130 [.dptr [BL ((Gu.has m.on x.Slot)&&(decide (b.ID=x.Box)))]],I64 313],.agg [.fn 82 [.ptr 1077 0,Ed x],I64 314],.agg [.fn 85 [.ptr 1077 0,Ed x],I64 315]]) (cs:=[.fn 130 [.dptr [BL (decide (x.G8=0))]],I64 310,.fn 130 [.dptr [BL ((Gu.has m.on x.Slot)&&(decide (b.ID=x.Box)))]],I64 313,.fn 82 [.ptr 1077 0,Ed x],I64 314,.fn 85 [.ptr 1077 0,Ed x],I64 315]) O ⟨O,O,O,O,G⟩ O Gee H51 O O O O O) O ?_)))))
 obtain⟨c,w,h⟩:=Ga h
 refine JLg (I64 c) (Zc O (Q9f.down [J6.mk 130 [.dptr [BL (decide (x.G8=0))]] (Z5 (decide (x.G8=0))) 310 Gdb O (fun q hq=>Gb5 (decide (x.G8=0)) q hq),
 J6.mk 130 [.dptr [BL ((Gu.has m.on x.Slot)&&(decide (b.ID=x.Box)))]] (Z5 ((Gu.has m.on x.Slot)&&(decide (b.ID=x.Box)))) 313 Gdb rfl (fun q hq=>Gb5 ((Gu.has m.on x.Slot)&&(decide (b.ID=x.Box))) q hq),
 J6.mk 82 [.dptr [.dptr (Gb.cs m)],Ed x] (G74 m (Move.mk x.Kind x.Box x.Slot x.G8)) 314 Rc5 rfl (fun q hq=>Jbf m (Move.mk x.Kind x.Box x.Slot x.G8) q hq),
 J6.mk 85 [.dptr [.dptr (Gb.cs m)],Ed x] (G73 m (Move.mk x.Kind x.Box x.Slot x.G8)) 315 Rc3 rfl (fun q hq=>Jbe m (Move.mk x.Kind x.Box x.Slot x.G8) q hq)] c w) J6d ⟨.msL rfl rfl rfl ⟨.data O O,.data O O,.data O O,.data O O,.fnL ⟨.ptrL rfl ⟨.ptrL rfl (dnQ 13 O O ⟨.mp rfl,.mp rfl,.mp rfl,.data O O,trivial⟩),trivial⟩,.data O O,trivial⟩,.data O O,.fnL ⟨.ptrL rfl ⟨.ptrL rfl (dnQ 13 O O ⟨.mp rfl,.mp rfl,.mp rfl,.data O O,trivial⟩),trivial⟩,.data O O,trivial⟩,.data O O,trivial⟩,trivial⟩ rfl) ?_ rfl rfl rfl
 refine JLm (I64 c) O (G5 (p (Js fun y=>Jr fun z=>(JLm (I64 c) O (JLh (BL (decide (c≠0))) (Gec O O O) O (G5 (z (JCc O h (fun h hb=>?_) (fun h hb=>?_)))))))))
 ·
  refine Jr fun f=>(JLm (I64 c) O (JLm (I64 c) O (G5 (f (Gq ?_)))))
  obtain rfl:=M5 h
  exact⟨[I64 c],[(1196,.box 97 (Ey m)),(1197,TP 93 Slot.kv Box.av m.on),(1198,TP 94 Kq Box.av m.quay),(1199,TP 95 Kq I64 m.open_)],⟨fbQ O (.sm O O),fmQ O,fmQ O,fmQ O,G⟩,rfl,⟨⟨_,rfl,.conv (.same rfl)⟩,G⟩,rfl,rfl⟩
 ·
  refine Gr (y (Js fun g=>?_))
  refine Qc (l':=[(2,.ptr 1077 0),(3,Ed x),(5,Eh b)]) (L':=[(1196,.box 97 (Ey m)),(1197,TP 93 Slot.kv Box.av m.on),(1198,TP 94 Kq Box.av m.quay),(1199,TP 95 Kq I64 m.open_),(1077,.box 39 [.ptr 1196 0]),(1080,.box 148 [.fn 130 [.dptr [BL (decide (x.G8=0))]],I64 310,.fn 130 [.dptr [BL ((Gu.has m.on x.Slot)&&(decide (b.ID=x.Box)))]],I64 313,.fn 82 [.ptr 1077 0,Ed x],I64 314,.fn 85 [.ptr 1077 0,Ed x],I64 315])]) ⟨(.sm O O),⟨fbQ O (.sm O O),fmQ O,fmQ O,fmQ O,fbQ O ⟨.same rfl,G⟩,fbQ O (.sm O O),G⟩,rfl⟩ ?_
  refine J5 [6] [0,0,0,0,0,0,0] [0,0,0,0,0,0,0] [[(1196,.box 97 (Ey m)),(1197,TP 93 Slot.kv Box.av m.on),(1198,TP 94 Kq Box.av m.quay),(1199,TP 95 Kq I64 m.open_),(1077,.box 39 [.ptr 1196 0]),(1080,.box 148 [.fn 130 [.dptr [BL (decide (x.G8=0))]],I64 310,.fn 130 [.dptr [BL ((Gu.has m.on x.Slot)&&(decide (b.ID=x.Box)))]],I64 313,.fn 82 [.ptr 1077 0,Ed x],I64 314,.fn 85 [.ptr 1077 0,Ed x],I64 315])],((1197,TP 93 Slot.kv Box.av (Gu.del m.on x.Slot))::[(1196,.box 97 (Ey m)),(1197,TP 93 Slot.kv Box.av m.on),(1198,TP 94 Kq Box.av m.quay),(1199,TP 95 Kq I64 m.open_),(1077,.box 39 [.ptr 1196 0]),(1080,.box 148 [.fn 130 [.dptr [BL (decide (x.G8=0))]],I64 310,.fn 130 [.dptr [BL ((Gu.has m.on x.Slot)&&(decide (b.ID=x.Box)))]],I64 313,.fn 82 [.ptr 1077 0,Ed x],I64 314,.fn 85 [.ptr 1077 0,Ed x],I64 315])])] J0 (by kernel_rfl) rfl rfl ?_
  refine Gd (u:=.ptr 1196 0) O O ⟨Ge (Hx Hw O O O O) O,G⟩ (Gd (u:=.ptr 1196 0) O O ⟨Ge (Rn O O) O,G⟩ (Gd (u:=.ptr 1196 13) O O ⟨Ge (Hi Yh O O) O,G⟩ (Gd (u:=.mp 1197) O O ⟨Ge (Hx Yj O O O O) O,G⟩ (Gd (u:=.dptr ((Move.cs x).drop 2)) O O ⟨Ge (G9 Jw O O O) O,G⟩ (Gd (u:=.agg (Slot.cs x.Slot)) O O ⟨Ge (Gj Hu O O O) O,G⟩ (H8d (u:=.tup []) O O O O (Ge (Hfe (m:=m.on) (a:=x.Slot) (fun _=>O) O O O O Qeb G52) O) (Qw (g (Js fun i=>?_)))))))))
  refine Qc (l':=[(2,.ptr 1077 0),(5,Eh b)]) (L':=[(1196,.box 97 (Ey m)),(1197,TP 93 Slot.kv Box.av (Gu.del m.on x.Slot)),(1198,TP 94 Kq Box.av m.quay),(1199,TP 95 Kq I64 m.open_),(1077,.box 39 [.ptr 1196 0]),(1080,.box 148 [.fn 130 [.dptr [BL (decide (x.G8=0))]],I64 310,.fn 130 [.dptr [BL ((Gu.has m.on x.Slot)&&(decide (b.ID=x.Box)))]],I64 313,.fn 82 [.ptr 1077 0,Ed x],I64 314,.fn 85 [.ptr 1077 0,Ed x],I64 315])]) ⟨(.sm O O),⟨fbQ O (.sm O O),fmQ O,fmQ O,fmQ O,fbQ O ⟨.same rfl,G⟩,fbQ O (.sm O O),G⟩,rfl⟩ ?_
  refine J5 [7] [0,0,0,0,0,0,0,0] [0,0,0,0,0,0,0,0] [[(1196,.box 97 (Ey m)),(1197,TP 93 Slot.kv Box.av (Gu.del m.on x.Slot)),(1198,TP 94 Kq Box.av m.quay),(1199,TP 95 Kq I64 m.open_),(1077,.box 39 [.ptr 1196 0]),(1080,.box 148 [.fn 130 [.dptr [BL (decide (x.G8=0))]],I64 310,.fn 130 [.dptr [BL ((Gu.has m.on x.Slot)&&(decide (b.ID=x.Box)))]],I64 313,.fn 82 [.ptr 1077 0,Ed x],I64 314,.fn 85 [.ptr 1077 0,Ed x],I64 315])],((1198,TP 94 Kq Box.av (Gu.put m.quay b.ID b))::[(1196,.box 97 (Ey m)),(1197,TP 93 Slot.kv Box.av (Gu.del m.on x.Slot)),(1198,TP 94 Kq Box.av m.quay),(1199,TP 95 Kq I64 m.open_),(1077,.box 39 [.ptr 1196 0]),(1080,.box 148 [.fn 130 [.dptr [BL (decide (x.G8=0))]],I64 310,.fn 130 [.dptr [BL ((Gu.has m.on x.Slot)&&(decide (b.ID=x.Box)))]],I64 313,.fn 82 [.ptr 1077 0,Ed x],I64 314,.fn 85 [.ptr 1077 0,Ed x],I64 315])])] J0 (by kernel_rfl) rfl rfl ?_
  refine Gd (u:=.ptr 1196 0) O O ⟨Ge (Hx Hw O O O O) O,G⟩ (Gd (u:=.ptr 1196 0) O O ⟨Ge (Rn O O) O,G⟩ (Gd (u:=.ptr 1196 14) O O ⟨Ge (Hi G22 O O) O,G⟩ (Gd (u:=.mp 1198) O O ⟨Ge (Hx G1b O O O O) O,G⟩ (Gd (u:=Eh b) O O ⟨Ge (G9 Rf O O O) O,G⟩ (Gd (u:=I64 b.ID) O O ⟨Ge (Gh Gc O O O) O,G⟩ (Gd (u:=.agg (Box.cs b)) O O ⟨Ge (Gj Ym O O O) O,G⟩ (H8d (u:=.junk) O O O O (Ge (G6f (m:=m.quay) (a:=b.ID) (v:=b) (fun _=>O) O O O O O O Q50 H0a) O) (Qw (i ?_)))))))))
  refine Jr fun j=>(JLh (.ptr 1196 0) (Hx Hw O O O O) O (JLh (.ptr 1196 0) (Rn O O) O (JLh (.ptr 1196 16) (Hi Gc1 O O) O (JLh (I64 m.lifts) (Hx Gc O O O O) O ?_))))
  obtain⟨d,k,h⟩:=Je h
  refine JLh (I64 d) (Jg k O O O) O (JLh (.ptr 1196 0) (Rn O O) O (JLh (.ptr 1196 16) (Hi Gc1 O O) O (Hp (u:=.junk) (Hc (u:=I64 d) (ds:=[E3 m.ship.Columns,E7 m.ship.Covers,I64 m.ship.Light.Kilos,I64 m.ship.Light.X,I64 m.ship.Light.Y,I64 m.ship.Light.Z,E4 m.ship.Rows,E5 m.ship.Frames,E6 m.ship.Tanks,I64 m.ship.G4.Tolerance,I64 m.ship.G4.Trim,I64 m.ship.G4.List_,I64 m.ship.G4.Stability,.mp 1197,.mp 1198,.mp 1199,I64 d]) G32 O O O O O O O O) (G5 (j (Jr fun l=>(JLm (I64 0) O (G5 (l (Gq ?_))))))))))
  obtain rfl:=M5 h
  exact⟨[I64 0],[(1196,.box 97 [E3 m.ship.Columns,E7 m.ship.Covers,I64 m.ship.Light.Kilos,I64 m.ship.Light.X,I64 m.ship.Light.Y,I64 m.ship.Light.Z,E4 m.ship.Rows,E5 m.ship.Frames,E6 m.ship.Tanks,I64 m.ship.G4.Tolerance,I64 m.ship.G4.Trim,I64 m.ship.G4.List_,I64 m.ship.G4.Stability,.mp 1197,.mp 1198,.mp 1199,I64 d]),(1197,TP 93 Slot.kv Box.av (Gu.del m.on x.Slot)),(1198,TP 94 Kq Box.av (Gu.put m.quay b.ID b)),(1199,TP 95 Kq I64 m.open_)],⟨fbQ O (.sm O O),fmQ O,fmQ O,fmQ O,G⟩,rfl,⟨⟨_,rfl,.conv (.same rfl)⟩,G⟩,rfl,rfl⟩

def Ga1 (a:Gb) (b:Move) (c:Box):Option Bool:=
 bnd (G41 a.ship b.Slot c.Size) fun d=>
 some d
theorem Jef (a:Gb) (b:Move) (c:Box) (r:Bool) (h:Ga1 a b c=some r):Pure Eo 87 [.dptr [.dptr (Gb.cs a)],Ed b,Eh c] (·=BL r):=by
 unfold Ga1 at h
 refine H0 [.tmp 3] Tryz.func87 O O (Jr fun e=>(JLm (BL false) O (G5 (e (Js fun f=>?_)))))
 obtain⟨d,g,h⟩:=Ga h
 refine JC_d0 J0 (by kernel_rfl) (Dq (Ee a) (Gh Hw O O O) O (Dq (Ee a) (G6e O O) O (Dq (Ee a) (G9 Re O O O) O (Dq (.agg (Gk.cs a.ship)) (Gj Hr O O O) O (Dq (.dptr ((Move.cs b).drop 2)) (G9 Jw O O O) O (Dq (.agg (Slot.cs b.Slot)) (Gj Hu O O O) O (Dq (.dptr ((Box.cs c).drop 2)) (G9 Y0 O O O) O (Dq (U8 c.Size) (Gh Ho O O O) O (Dq (BL d) (Gt (args:=[.agg (Gk.cs a.ship),.agg (Slot.cs b.Slot),U8 c.Size]) O (H86 a.ship b.Slot c.Size d g) J71 ⟨O,O,O,O,O,O,G⟩) O (Dq (BL d) (G7 O O) O (Dnil (f (Gq (fin1 BL h))))))))))))))

def Ga0 (a:Gb) (b:Move):Option Bool:=
 bnd (G59 a b.Slot) fun c=>
 some (!c)
theorem Jee (d:Gb) (a:Move) (r:Bool) (h:Ga0 d a=some r):Pure Eo 88 [.dptr [.dptr (Gb.cs d)],Ed a] (·=BL r):=by
 unfold Ga0 at h
 refine H0 [.tmp 2] Tryz.func88 O O (Jr fun e=>(JLm (BL false) O (G5 (e (Jr fun f=>(JLh (Ee d) (Gh Hw O O O) O (JLh (.dptr ((Move.cs a).drop 2)) (G9 Jw O O O) O (JLh (.agg (Slot.cs a.Slot)) (Gj Hu O O O) O ?_))))))))
 obtain⟨c,g,h⟩:=Ga h
 refine JLh (BL c) (Gt O (Hc9 d a.Slot c g) Q62 ⟨O,O,O,O,G⟩) O (JLh (BL (!c)) (Qx (b:=c) O O) O (JLm (BL (!c)) O (G5 (f (Gq (fin1 BL h))))))

def G5a (y:Slot) (a:Move):Option Bool:=
 bnd (G9a y a.Slot) fun b=>
 some b
theorem J88 (y:Slot) (a:Move) (r:Bool) (h:G5a y a=some r):Pure Eo 90 [.agg [I64 y.G2,I64 y.Tier,U8 y.Half],Ed a] (·=BL r):=by
 unfold G5a at h
 refine H0 [.tmp 3] Tryz.func90 O O (Jr fun c=>(JLh (.ptr 1146 0) (Jm (cs:=[I64 y.G2,I64 y.Tier,U8 y.Half]) 1146 O O O O O) O (JLm (BL false) O (G5 (c (Gm [(1,Ed a),(2,.dptr [I64 y.G2,I64 y.Tier,U8 y.Half])] [] 1146 rfl rfl rfl G rfl (by exact⟨.conv (.same rfl),.ptr,G⟩) (Jr fun d=>(JLh (.agg [I64 y.G2,I64 y.Tier,U8 y.Half]) (Gj Hu O O O) O (JLh (.dptr ((Move.cs a).drop 2)) (G9 Jw O O O) O (JLh (.agg (Slot.cs a.Slot)) (Gj Hu O O O) O ?_))))))))))
 obtain⟨b,e,h⟩:=Ga h
 refine JLh (BL b) (Gt O (Hae y a.Slot b e) J6f ⟨O,O,O,O,G⟩) O (JLm (BL b) O (G5 (d (Gq (fin1 BL h)))))

def G9f (a:Gb) (b:Move):Option Bool:=
 bnd (G05 a (fun z0=>G5a z0 b)) fun c=>
 some (!c)
theorem Jed (d:Gb) (a:Move) (r:Bool) (h:G9f d a=some r):Pure Eo 89 [.dptr [.dptr (Gb.cs d)],Ed a] (·=BL r):=by
 unfold G9f at h
 refine H0 [.tmp 2] Tryz.func89 O O (Jr fun e=>(JLm (BL false) O (G5 (e (Jr fun f=>(JLh (Ee d) (Gh Hw O O O) O (JLh (.fn 90 [.dptr (Move.cs a)]) (Jz (cs:=[.dptr (Move.cs a)]) O O) O ?_)))))))
 obtain⟨c,g,h⟩:=Ga h
 refine JLh (BL c) (Gt O (H47.down d (fun z0=>G5a z0 a) 90 [.dptr (Move.cs a)] Rbf O (fun z0 q hq=>J88 z0 a q hq) c g) J6e ⟨O,O,O,O,G⟩) O (JLh (BL (!c)) (Qx (b:=c) O O) O (JLm (BL (!c)) O (G5 (f (Gq (fin1 BL h))))))

def G9e (b:Move) (a:Gb):Option Bool:=
 bnd (G16 a.on) fun e=>
 bnd (G04 (Gu.keys a.on)) fun c=>
 bnd (H45 b.Slot c) fun d=>
 some d
theorem Jec (b:Move) (a:Gb) (r:Bool) (h:G9e b a=some r):Pure Eo 91 [.dptr (Move.cs b),.dptr [.dptr (Gb.cs a)]] (·=BL r):=by
 unfold G9e at h
 refine H0 [.tmp 2] Tryz.func91 O O (Jr fun e=>(JLm (BL false) O (G5 (e (Js fun f=>?_)))))
 obtain⟨k,g,h⟩:=Ga h
 obtain⟨c,i,h⟩:=Ga h
 obtain⟨d,j,h⟩:=Ga h
 refine JC_d0 J0 (by kernel_rfl) (Dq (.dptr ((Move.cs b).drop 2)) (G9 Jw O O O) O (Dq (.agg (Slot.cs b.Slot)) (Gj Hu O O O) O (Dq (Ee a) (Gh Hw O O O) O (Dq (Ee a) (G6e O O) O (Dq (.dptr ((Gb.cs a).drop 13)) (G9 Yh O O O) O (Dq (DM Slot.kv Box.av a.on) (Gh Yj O O O) O (Dq (.fn 132 [.dptr [DM Slot.kv Box.av a.on]]) (Gt (args:=[DM Slot.kv Box.av a.on]) O (H18 a.on k g) Rbc ⟨O,O,G⟩) O (Dq (BG 3 Slot.av c) (Gt (args:=[.fn 132 [.dptr [DM Slot.kv Box.av a.on]]]) O (H82.down (Gu.keys a.on) 132 [.dptr [DM Slot.kv Box.av a.on]] R60 O (Gfe a.on) c i) Rbd ⟨O,O,G⟩) O (Dq (BL d) (Gt (args:=[.agg (Slot.cs b.Slot),BG 3 Slot.av c]) O (Jba.down b.Slot c d j) J70 ⟨O,O,O,O,G⟩) O (Dq (BL d) (G7 O O) O (Dnil ?_)))))))))))
 refine f (Gq (fin1 BL h))

def G9d (b:Gb) (c:Move) (d:Box):Option Bool:=
 Z3 b.ship.Columns c.Slot.G2 fun a=>
 bnd (bif (!(decide (a.Height≤0))) then G2b b c.Slot d 1 else some default) fun e=>
 bnd (bif (!(decide (a.Height≤0))) then G2b b c.Slot d 2 else some default) fun f=>
 some ((decide (a.Height≤0))||(decide ((max e f)≤a.Height)))
theorem Jeb (a:Gb) (c:Move) (d:Box) (r:Bool) (h:G9d a c d=some r):Pure Eo 94 [.dptr [.dptr (Gb.cs a)],Ed c,Eh d] (·=BL r):=by
 unfold G9d at h
 refine H0 [.tmp 3] Tryz.func94 O O (Jr fun i=>(JLm (BL false) O (G5 (i (Js fun j=>?_)))))
 obtain⟨p,b,k,l,h⟩:=Yc h
 refine JC_d0 J0 (by kernel_rfl) (Dq (Ee a) (Gh Hw O O O) O (Dq (Ee a) (G6e O O) O (Dq (Ee a) (G9 Re O O O) O (Dq (Ee a) (G9 Hv O O O) O (Dq (E3 a.ship.Columns) (Gh J9 O O O) O (Dq (.dptr ((Move.cs c).drop 2)) (G9 Jw O O O) O (Dq (.dptr ((Move.cs c).drop 2)) (G9 Jd O O O) O (Dq (I64 c.Slot.G2) (Gh Gc O O O) O (Dq (Ei b) (Hg (f:=G2.av) (xs:=a.ship.Columns) (y:=b) O O O Ht l k) O (Dq (.dptr ((G2.cs b).drop 4)) (G9 Haa O O O) O (Dq (I64 b.Height) (Gh Gc O O O) O (Dq (I64 b.Height) (G7 O O) O (Dnil (j (Js fun m=>?_)))))))))))))))
 obtain⟨e,n,h⟩:=Ga h
 obtain⟨g,o,h⟩:=Ga h
 refine JC_d0 J0 (by kernel_rfl) (Dq (I64 b.Height) (G6 O O) O (Dq (BL (decide (b.Height≤0))) (J0b O O O) O (Dq (BL (decide (b.Height≤0))) (G6 O O) O (Do (Ee a) [] O .scf G (fun hc=>Gh Hw O O O) O (Do (.dptr ((Move.cs c).drop 2)) [] O .scf G (fun hc=>G9 Jw O O O) O (Do (.agg (Slot.cs c.Slot)) [20] O .scf ⟨Ua,G⟩ (fun hc=>Gj Hu O O O) O (Do (.agg (Box.cs d)) [] O .scf G (fun hc=>Gj Ym O O O) O (Do (I64 e) [19,21,22] O .scf ⟨Ua,Ua,Ua,G⟩ (fun hc=>Gt (args:=[.dptr (Gb.cs a),.agg (Slot.cs c.Slot),.agg (Box.cs d),U8 1]) O (Hc6.down a c.Slot d 1 e (H3 hc n)) Q61 ⟨O,O,O,O,O,O,O,O,G⟩) O (Do (Ee a) [] O .scf G (fun hc=>Gh Hw O O O) O (Do (.dptr ((Move.cs c).drop 2)) [] O .scf G (fun hc=>G9 Jw O O O) O (Do (.agg (Slot.cs c.Slot)) [25] O .scf ⟨Ua,G⟩ (fun hc=>Gj Hu O O O) O (Do (.agg (Box.cs d)) [] O .scf G (fun hc=>Gj Ym O O O) O (Do (I64 g) [24,26,27] O .scf ⟨Ua,Ua,Ua,G⟩ (fun hc=>Gt (args:=[.dptr (Gb.cs a),.agg (Slot.cs c.Slot),.agg (Box.cs d),U8 2]) O (Hc6.down a c.Slot d 2 g (H3 hc o)) Q61 ⟨O,O,O,O,O,O,O,O,G⟩) O ?_)))))))))))))
 refine Do (I64 (max e g)) [23,28] O .scf ⟨Ua,Ua,G⟩ (fun hc=>Z10 O O O) O (Do (I64 b.Height) [] O .scf G (fun hc=>G6 O O) O (Do (BL (decide ((max e g)≤b.Height))) [29,30] O .scf ⟨Ua,Ua,G⟩ (fun hc=>J0b O O O) O (Dq (BL ((decide (b.Height≤0))||(decide ((max e g)≤b.Height)))) (G2f O O O O) O (Dq (BL ((decide (b.Height≤0))||(decide ((max e g)≤b.Height)))) (G7 O O) O (Dnil (m (Gq (fin1 BL h))))))))

def Gfc (m:Gb) (x:Move):Option (Int×Gb):=
 bnd (some (Gu.get m.quay x.Box (Box.mk 0 ByteArray.empty 0 false 0 0 0 0 false))) fun a=>
 bnd (H3b (decide (x.G8=0)) 310) fun d=>
 bnd (H3b (Gu.has m.quay x.Box) 313) fun e=>
 bnd (H22 [(Z5 (decide (x.G8=0)),310),
  (Z5 (Gu.has m.quay x.Box),313),
  (Ga1 m (Move.mk x.Kind x.Box x.Slot x.G8) a,316),
  (Ga0 m (Move.mk x.Kind x.Box x.Slot x.G8),315),
  (G9f m (Move.mk x.Kind x.Box x.Slot x.G8),317),
  (G9e (Move.mk x.Kind x.Box x.Slot x.G8) m,318),
  (G9d m (Move.mk x.Kind x.Box x.Slot x.G8) a,319)]) fun b=>
 bif decide (b≠0) then
 (some (b,m))
 else
 (chk (m.lifts+1) fun c=>
  some (0,(Gb.mk m.ship (Gu.put m.on x.Slot a) (Gu.del m.quay x.Box) m.open_ c)))
abbrev Ez (m:Gb):List AV:=[E3 m.ship.Columns,E7 m.ship.Covers,I64 m.ship.Light.Kilos,I64 m.ship.Light.X,I64 m.ship.Light.Y,I64 m.ship.Light.Z,E4 m.ship.Rows,E5 m.ship.Frames,E6 m.ship.Tanks,I64 m.ship.G4.Tolerance,I64 m.ship.G4.Trim,I64 m.ship.G4.List_,I64 m.ship.G4.Stability,.mp 1197,.mp 1198,.mp 1199,I64 m.lifts]
theorem Qbc (m:Gb) (x:Move) (r:Int×Gb) (h:Gfc m x=some r):Jh Eo 37 [.ptr 1196 0,.agg (Move.cs x)] [(1196,.box 97 [E3 m.ship.Columns,E7 m.ship.Covers,I64 m.ship.Light.Kilos,I64 m.ship.Light.X,I64 m.ship.Light.Y,I64 m.ship.Light.Z,E4 m.ship.Rows,E5 m.ship.Frames,E6 m.ship.Tanks,I64 m.ship.G4.Tolerance,I64 m.ship.G4.Trim,I64 m.ship.G4.List_,I64 m.ship.G4.Stability,.mp 1197,.mp 1198,.mp 1199,I64 m.lifts]),(1197,TP 93 Slot.kv Box.av m.on),(1198,TP 94 Kq Box.av m.quay),(1199,TP 95 Kq I64 m.open_)] (fun av L'=>av=I64 r.1∧L'=[(1196,.box 97 [E3 r.2.ship.Columns,E7 r.2.ship.Covers,I64 r.2.ship.Light.Kilos,I64 r.2.ship.Light.X,I64 r.2.ship.Light.Y,I64 r.2.ship.Light.Z,E4 r.2.ship.Rows,E5 r.2.ship.Frames,E6 r.2.ship.Tanks,I64 r.2.ship.G4.Tolerance,I64 r.2.ship.G4.Trim,I64 r.2.ship.G4.List_,I64 r.2.ship.G4.Stability,.mp 1197,.mp 1198,.mp 1199,I64 r.2.lifts]),(1197,TP 93 Slot.kv Box.av r.2.on),(1198,TP 94 Kq Box.av r.2.quay),(1199,TP 95 Kq I64 r.2.open_)]):=by
 unfold Gfc at h
 refine Q9 [1196,1197,1198,1199] [.tmp 4] Tryz.func37 O O (G56 O) (Jr fun n=>(JLh (.ptr 1081 0) (Jm (cs:=[.ptr 1196 0]) 1081 O O O O O) O (JLh (.ptr 1082 0) (Jm (cs:=[U8 x.Kind,I64 x.Box,I64 x.Slot.G2,I64 x.Slot.Tier,U8 x.Slot.Half,I64 x.G8]) 1082 O O O O O) O (JLm (I64 0) O (G5 (n ?_))))))
 refine Gm [(2,.ptr 1081 0),(3,Ed x)] [(1196,.box 97 (Ez m)),(1197,TP 93 Slot.kv Box.av m.on),(1198,TP 94 Kq Box.av m.quay),(1199,TP 95 Kq I64 m.open_),(1081,.box 39 [.ptr 1196 0])] 1082 rfl rfl rfl ⟨⟨_,rfl,.boxEq rfl rfl⟩,fmQ O,fmQ O,fmQ O,⟨_,rfl,.boxEq rfl rfl⟩,G⟩ rfl (by exact⟨.conv (.same rfl),.ptr,G⟩) ?_
 refine Js fun o=>?_
 refine Qc (l':=[(2,.ptr 1081 0),(3,Ed x)]) (L':=[(1196,.box 97 (Ez m)),(1197,TP 93 Slot.kv Box.av m.on),(1198,TP 94 Kq Box.av m.quay),(1199,TP 95 Kq I64 m.open_),(1081,.box 39 [.ptr 1196 0])]) ⟨(.sm O O),⟨fbQ O (.sm O O),fmQ O,fmQ O,fmQ O,fbQ O ⟨.same rfl,G⟩,G⟩,rfl⟩ ?_
 obtain⟨b,e,h⟩:=Ga h
 refine J5 [10,11] [0,0,0,0,0,0,0,0,0,0,0,0,2] [1,1,1,1,1,1,1,1,1,2,0,0,2] [[(1196,.box 97 (Ez m)),(1197,TP 93 Slot.kv Box.av m.on),(1198,TP 94 Kq Box.av m.quay),(1199,TP 95 Kq I64 m.open_),(1081,.box 39 [.ptr 1196 0])],((1083,.box 60 [.junk,.junk,.junk,.junk,.junk,.junk,.junk,.junk,.junk])::[(1196,.box 97 (Ez m)),(1197,TP 93 Slot.kv Box.av m.on),(1198,TP 94 Kq Box.av m.quay),(1199,TP 95 Kq I64 m.open_),(1081,.box 39 [.ptr 1196 0])]),((1083,.box 60 (Box.cs b))::((1083,.box 60 [.junk,.junk,.junk,.junk,.junk,.junk,.junk,.junk,.junk])::[(1196,.box 97 (Ez m)),(1197,TP 93 Slot.kv Box.av m.on),(1198,TP 94 Kq Box.av m.quay),(1199,TP 95 Kq I64 m.open_),(1081,.box 39 [.ptr 1196 0])]))] J0 (by kernel_rfl) rfl rfl ?_
 refine Gd (u:=.ptr 1196 0) O O ⟨Ge (Hx Hw O O O O) O,Ge (Hx Hw O O O O) O,G⟩ (Gd (u:=.ptr 1196 0) O O ⟨Ge (Rn O O) O,Ge (Rn O O) O,G⟩ (Gd (u:=.ptr 1196 14) O O ⟨Ge (Hi G22 O O) O,Ge (Hi G22 O O) O,G⟩ (Gd (u:=.mp 1198) O O ⟨Ge (Hx G1b O O O O) O,Ge (Hx G1b O O O O) O,G⟩ (Gd (u:=.dptr ((Move.cs x).drop 1)) O O ⟨Ge (G9 Yi O O O) O,Ge (G9 Yi O O O) O,G⟩ (Gd (u:=I64 x.Box) O O ⟨Ge (Gh Gc O O O) O,Ge (Gh Gc O O O) O,G⟩ (Gd (u:=.tup [.agg (Box.cs b),BL (Gu.has m.quay x.Box)]) O O ⟨Ge (((M5 e) ▸ Hff (av:=Box.av) (m:=m.quay) (a:=x.Box) (Box.mk 0 ByteArray.empty 0 false 0 0 0 0 false) (.agg #[E0,.string ByteArray.empty,.int .u8 0,.bool false,E0,E0,E0,.int .u8 0,.bool false]) (fun _=>O) O (.own O) O Q50 H0a J97 O)) O,Ge (((M5 e) ▸ Hff (av:=Box.av) (m:=m.quay) (a:=x.Box) (Box.mk 0 ByteArray.empty 0 false 0 0 0 0 false) (.agg #[E0,.string ByteArray.empty,.int .u8 0,.bool false,E0,E0,E0,.int .u8 0,.bool false]) (fun _=>O) O (.own O) O Q50 H0a J97 O)) O,G⟩ (Gd (u:=.tup [.agg (Box.cs b),BL (Gu.has m.quay x.Box)]) O O ⟨Ge (G6 O O) O,Ge (G6 O O) O,G⟩ (Gd (u:=.agg (Box.cs b)) O O ⟨Ge (H1 O O O) O,Ge (H1 O O O) O,G⟩ (Gd (u:=BL (Gu.has m.quay x.Box)) O O ⟨Ge (H1 O O O) O,Ge (H1 O O O) O,Ge (H1 O O O) O,G⟩ (D_w (u:=.ptr 1083 0) O O O O (Ge (Hq 1083 9 Qt O O) O) (H8d (u:=.junk) O O O O (Ge (Hc (u:=.agg (Box.cs b)) (ds:=(Box.cs b)) Rs O O O O O O O O) O) (Gd (u:=BL (Gu.has m.quay x.Box)) O O ⟨Ge (G7 O O) O,G⟩ (Qw ?_)))))))))))))
 refine o ?_
 refine fzQ [(2,.ptr 1081 0),(3,Ed x),(5,Eh b),(6,BL (Gu.has m.quay x.Box))] [(1196,.box 97 (Ez m)),(1197,TP 93 Slot.kv Box.av m.on),(1198,TP 94 Kq Box.av m.quay),(1199,TP 95 Kq I64 m.open_),(1081,.box 39 [.ptr 1196 0])] 1083 rfl rfl rfl ⟨⟨_,rfl,.boxEq rfl rfl⟩,fmQ O,fmQ O,fmQ O,⟨_,rfl,.boxEq rfl rfl⟩,G⟩ rfl ?_
 refine Jr fun p=>(JLh (.dptr [I64 x.G8]) (G9 Y1 O O O) O (JLh (I64 x.G8) (Gh Gc O O O) O (JLh (BL (decide (x.G8=0))) (Q0 O O O) O ?_)))
 obtain⟨r5,s,h⟩:=Ga h
 refine JLh (.agg [.fn 130 [.dptr [BL (decide (x.G8=0))]],I64 310]) (Gt O (H17 (decide (x.G8=0)) 310 r5 s) H0b ⟨O,O,O,O,G⟩) O (JLm (BL (Gu.has m.quay x.Box)) O ?_)
 obtain⟨r6,t,h⟩:=Ga h
 refine JLh (.agg [.fn 130 [.dptr [BL (Gu.has m.quay x.Box)]],I64 313]) (Gt O (H17 (Gu.has m.quay x.Box) 313 r6 t) H0b ⟨O,O,O,O,G⟩) O (JLh (.fn 87 [.ptr 1081 0,Ed x,Eh b]) (Jz (cs:=[.ptr 1081 0,Ed x,Eh b]) O O) O (JLh (.agg [.fn 87 [.ptr 1081 0,Ed x,Eh b],I64 316]) (Hb (cs:=[.fn 87 [.ptr 1081 0,Ed x,Eh b],I64 316]) [(0,1),(1,1)] [.sc .nilFunc,I64 0] [.nilFunc,E0] G02 G21 (zzQ O) O O) O (JLh (.fn 88 [.ptr 1081 0,Ed x]) (Jz (cs:=[.ptr 1081 0,Ed x]) O O) O (JLh (.agg [.fn 88 [.ptr 1081 0,Ed x],I64 315]) (Hb (cs:=[.fn 88 [.ptr 1081 0,Ed x],I64 315]) [(0,1),(1,1)] [.sc .nilFunc,I64 0] [.nilFunc,E0] G02 G21 (zzQ O) O O) O (JLh (.fn 89 [.ptr 1081 0,Ed x]) (Jz (cs:=[.ptr 1081 0,Ed x]) O O) O (JLh (.agg [.fn 89 [.ptr 1081 0,Ed x],I64 317]) (Hb (cs:=[.fn 89 [.ptr 1081 0,Ed x],I64 317]) [(0,1),(1,1)] [.sc .nilFunc,I64 0] [.nilFunc,E0] G02 G21 (zzQ O) O O) O (JLh (.fn 91 [.dptr (Move.cs x),.ptr 1081 0]) (Jz (cs:=[.dptr (Move.cs x),.ptr 1081 0]) O O) O (JLh (.agg [.fn 91 [.dptr (Move.cs x),.ptr 1081 0],I64 318]) (Hb (cs:=[.fn 91 [.dptr (Move.cs x),.ptr 1081 0],I64 318]) [(0,1),(1,1)] [.sc .nilFunc,I64 0] [.nilFunc,E0] G02 G21 (zzQ O) O O) O (JLh (.fn 94 [.ptr 1081 0,Ed x,Eh b]) (Jz (cs:=[.ptr 1081 0,Ed x,Eh b]) O O) O (JLh (.agg [.fn 94 [.ptr 1081 0,Ed x,Eh b],I64 319]) (Hb (cs:=[.fn 94 [.ptr 1081 0,Ed x,Eh b],I64 319]) [(0,1),(1,1)] [.sc .nilFunc,I64 0] [.nilFunc,E0] G02 G21 (zzQ O) O O) O (JLh (.ms 1084 0 7 7) (Jf7 1084 (xs:=[.agg [.fn 130 [.dptr [BL (decide (x.G8=0))]],I64 310],.agg [.fn 130 [.dptr [BL (Gu.has m.quay x.Box)]],I64 313],.agg [.fn 87 [.ptr 1081 0,Ed x,Eh b],I64 316],.agg [.fn 88 [.ptr 1081 0,Ed x],I64 315],.agg [.fn 89 [.ptr 1081 0,Ed x],I64 317],.agg [.fn 91 [.dptr (Move.cs x),.ptr 1081 0],I64 318],.agg [.fn 94 [.ptr 1081 0,Ed x,Eh b],I64 319]]) (cs:=[.fn 130 [.dptr [BL (decide (x.G8=0))]],I64 310,.fn 130 [.dptr [BL (Gu.has m.quay x.Box)]],I64 313,.fn 87 [.ptr 1081 0,Ed x,Eh b],I64 316,.fn 88 [.ptr 1081 0,Ed x],I64 315,.fn 89 [.ptr 1081 0,Ed x],I64 317,.fn 91 [.dptr (Move.cs x),.ptr 1081 0],I64 318,.fn 94 [.ptr 1081 0,Ed x,Eh b],I64 319]) O ⟨O,O,O,O,O,O,O,G⟩ O Gee H51 O O O O O) O ?_)))))))))))
 obtain⟨c,w,h⟩:=Ga h
 refine JLg (I64 c) (Zc O (Q9f.down [J6.mk 130 [.dptr [BL (decide (x.G8=0))]] (Z5 (decide (x.G8=0))) 310 Gdb O (fun q hq=>Gb5 (decide (x.G8=0)) q hq),
 J6.mk 130 [.dptr [BL (Gu.has m.quay x.Box)]] (Z5 (Gu.has m.quay x.Box)) 313 Gdb rfl (fun q hq=>Gb5 (Gu.has m.quay x.Box) q hq),
 J6.mk 87 [.dptr [.dptr (Gb.cs m)],Ed x,Eh b] (Ga1 m (Move.mk x.Kind x.Box x.Slot x.G8) b) 316 Rc2 rfl (fun q hq=>Jef m (Move.mk x.Kind x.Box x.Slot x.G8) b q hq),
 J6.mk 88 [.dptr [.dptr (Gb.cs m)],Ed x] (Ga0 m (Move.mk x.Kind x.Box x.Slot x.G8)) 315 Rc1 rfl (fun q hq=>Jee m (Move.mk x.Kind x.Box x.Slot x.G8) q hq),
 J6.mk 89 [.dptr [.dptr (Gb.cs m)],Ed x] (G9f m (Move.mk x.Kind x.Box x.Slot x.G8)) 317 Rc0 rfl (fun q hq=>Jed m (Move.mk x.Kind x.Box x.Slot x.G8) q hq),
 J6.mk 91 [.dptr (Move.cs x),.dptr [.dptr (Gb.cs m)]] (G9e (Move.mk x.Kind x.Box x.Slot x.G8) m) 318 Rbe rfl (fun q hq=>Jec (Move.mk x.Kind x.Box x.Slot x.G8) m q hq),
 J6.mk 94 [.dptr [.dptr (Gb.cs m)],Ed x,Eh b] (G9d m (Move.mk x.Kind x.Box x.Slot x.G8) b) 319 Rbb rfl (fun q hq=>Jeb m (Move.mk x.Kind x.Box x.Slot x.G8) b q hq)] c w) J6d ⟨.msL rfl rfl rfl ⟨.data O O,.data O O,.data O O,.data O O,.fnL ⟨.ptrL rfl ⟨.ptrL rfl (dnQ 13 O O ⟨.mp rfl,.mp rfl,.mp rfl,.data O O,trivial⟩),trivial⟩,.data O O,.data O O,trivial⟩,.data O O,.fnL ⟨.ptrL rfl ⟨.ptrL rfl (dnQ 13 O O ⟨.mp rfl,.mp rfl,.mp rfl,.data O O,trivial⟩),trivial⟩,.data O O,trivial⟩,.data O O,.fnL ⟨.ptrL rfl ⟨.ptrL rfl (dnQ 13 O O ⟨.mp rfl,.mp rfl,.mp rfl,.data O O,trivial⟩),trivial⟩,.data O O,trivial⟩,.data O O,.fnL ⟨.data O O,.ptrL rfl ⟨.ptrL rfl (dnQ 13 O O ⟨.mp rfl,.mp rfl,.mp rfl,.data O O,trivial⟩),trivial⟩,trivial⟩,.data O O,.fnL ⟨.ptrL rfl ⟨.ptrL rfl (dnQ 13 O O ⟨.mp rfl,.mp rfl,.mp rfl,.data O O,trivial⟩),trivial⟩,.data O O,.data O O,trivial⟩,.data O O,trivial⟩,trivial⟩ rfl) ?_ rfl rfl rfl
 refine JLm (I64 c) O (G5 (p (Js fun y=>Jr fun z=>(JLm (I64 c) O (JLh (BL (decide (c≠0))) (Gec O O O) O (G5 (z (JCc O h (fun h hb=>?_) (fun h hb=>?_)))))))))
 ·
  refine Jr fun f=>(JLm (I64 c) O (JLm (I64 c) O (G5 (f (Gq ?_)))))
  obtain rfl:=M5 h
  exact⟨[I64 c],[(1196,.box 97 (Ez m)),(1197,TP 93 Slot.kv Box.av m.on),(1198,TP 94 Kq Box.av m.quay),(1199,TP 95 Kq I64 m.open_)],⟨fbQ O (.sm O O),fmQ O,fmQ O,fmQ O,G⟩,rfl,⟨⟨_,rfl,.conv (.same rfl)⟩,G⟩,rfl,rfl⟩
 ·
  refine Gr (y (Js fun g=>?_))
  refine Qc (l':=[(2,.ptr 1081 0),(3,Ed x),(5,Eh b)]) (L':=[(1196,.box 97 (Ez m)),(1197,TP 93 Slot.kv Box.av m.on),(1198,TP 94 Kq Box.av m.quay),(1199,TP 95 Kq I64 m.open_),(1081,.box 39 [.ptr 1196 0]),(1084,.box 148 [.fn 130 [.dptr [BL (decide (x.G8=0))]],I64 310,.fn 130 [.dptr [BL (Gu.has m.quay x.Box)]],I64 313,.fn 87 [.ptr 1081 0,Ed x,Eh b],I64 316,.fn 88 [.ptr 1081 0,Ed x],I64 315,.fn 89 [.ptr 1081 0,Ed x],I64 317,.fn 91 [.dptr (Move.cs x),.ptr 1081 0],I64 318,.fn 94 [.ptr 1081 0,Ed x,Eh b],I64 319])]) ⟨(.sm O O),⟨fbQ O (.sm O O),fmQ O,fmQ O,fmQ O,fbQ O ⟨.same rfl,G⟩,fbQ O (.sm O O),G⟩,rfl⟩ ?_
  refine J5 [6] [0,0,0,0,0,0,0] [0,0,0,0,0,0,0] [[(1196,.box 97 (Ez m)),(1197,TP 93 Slot.kv Box.av m.on),(1198,TP 94 Kq Box.av m.quay),(1199,TP 95 Kq I64 m.open_),(1081,.box 39 [.ptr 1196 0]),(1084,.box 148 [.fn 130 [.dptr [BL (decide (x.G8=0))]],I64 310,.fn 130 [.dptr [BL (Gu.has m.quay x.Box)]],I64 313,.fn 87 [.ptr 1081 0,Ed x,Eh b],I64 316,.fn 88 [.ptr 1081 0,Ed x],I64 315,.fn 89 [.ptr 1081 0,Ed x],I64 317,.fn 91 [.dptr (Move.cs x),.ptr 1081 0],I64 318,.fn 94 [.ptr 1081 0,Ed x,Eh b],I64 319])],((1198,TP 94 Kq Box.av (Gu.del m.quay x.Box))::[(1196,.box 97 (Ez m)),(1197,TP 93 Slot.kv Box.av m.on),(1198,TP 94 Kq Box.av m.quay),(1199,TP 95 Kq I64 m.open_),(1081,.box 39 [.ptr 1196 0]),(1084,.box 148 [.fn 130 [.dptr [BL (decide (x.G8=0))]],I64 310,.fn 130 [.dptr [BL (Gu.has m.quay x.Box)]],I64 313,.fn 87 [.ptr 1081 0,Ed x,Eh b],I64 316,.fn 88 [.ptr 1081 0,Ed x],I64 315,.fn 89 [.ptr 1081 0,Ed x],I64 317,.fn 91 [.dptr (Move.cs x),.ptr 1081 0],I64 318,.fn 94 [.ptr 1081 0,Ed x,Eh b],I64 319])])] J0 (by kernel_rfl) rfl rfl ?_
  refine Gd (u:=.ptr 1196 0) O O ⟨Ge (Hx Hw O O O O) O,G⟩ (Gd (u:=.ptr 1196 0) O O ⟨Ge (Rn O O) O,G⟩ (Gd (u:=.ptr 1196 14) O O ⟨Ge (Hi G22 O O) O,G⟩ (Gd (u:=.mp 1198) O O ⟨Ge (Hx G1b O O O O) O,G⟩ (Gd (u:=.dptr ((Move.cs x).drop 1)) O O ⟨Ge (G9 Yi O O O) O,G⟩ (Gd (u:=I64 x.Box) O O ⟨Ge (Gh Gc O O O) O,G⟩ (H8d (u:=.tup []) O O O O (Ge (Hfe (m:=m.quay) (a:=x.Box) (fun _=>O) O O O O Q50 H0a) O) (Qw (g (Js fun i=>?_)))))))))
  refine Qc (l':=[(2,.ptr 1081 0),(3,Ed x),(5,Eh b)]) (L':=[(1196,.box 97 (Ez m)),(1197,TP 93 Slot.kv Box.av m.on),(1198,TP 94 Kq Box.av (Gu.del m.quay x.Box)),(1199,TP 95 Kq I64 m.open_),(1081,.box 39 [.ptr 1196 0]),(1084,.box 148 [.fn 130 [.dptr [BL (decide (x.G8=0))]],I64 310,.fn 130 [.dptr [BL (Gu.has m.quay x.Box)]],I64 313,.fn 87 [.ptr 1081 0,Ed x,Eh b],I64 316,.fn 88 [.ptr 1081 0,Ed x],I64 315,.fn 89 [.ptr 1081 0,Ed x],I64 317,.fn 91 [.dptr (Move.cs x),.ptr 1081 0],I64 318,.fn 94 [.ptr 1081 0,Ed x,Eh b],I64 319])]) ⟨(.sm O O),⟨fbQ O (.sm O O),fmQ O,fmQ O,fmQ O,fbQ O ⟨.same rfl,G⟩,fbQ O (.sm O O),G⟩,rfl⟩ ?_
  refine J5 [7] [0,0,0,0,0,0,0,0] [0,0,0,0,0,0,0,0] [[(1196,.box 97 (Ez m)),(1197,TP 93 Slot.kv Box.av m.on),(1198,TP 94 Kq Box.av (Gu.del m.quay x.Box)),(1199,TP 95 Kq I64 m.open_),(1081,.box 39 [.ptr 1196 0]),(1084,.box 148 [.fn 130 [.dptr [BL (decide (x.G8=0))]],I64 310,.fn 130 [.dptr [BL (Gu.has m.quay x.Box)]],I64 313,.fn 87 [.ptr 1081 0,Ed x,Eh b],I64 316,.fn 88 [.ptr 1081 0,Ed x],I64 315,.fn 89 [.ptr 1081 0,Ed x],I64 317,.fn 91 [.dptr (Move.cs x),.ptr 1081 0],I64 318,.fn 94 [.ptr 1081 0,Ed x,Eh b],I64 319])],((1197,TP 93 Slot.kv Box.av (Gu.put m.on x.Slot b))::[(1196,.box 97 (Ez m)),(1197,TP 93 Slot.kv Box.av m.on),(1198,TP 94 Kq Box.av (Gu.del m.quay x.Box)),(1199,TP 95 Kq I64 m.open_),(1081,.box 39 [.ptr 1196 0]),(1084,.box 148 [.fn 130 [.dptr [BL (decide (x.G8=0))]],I64 310,.fn 130 [.dptr [BL (Gu.has m.quay x.Box)]],I64 313,.fn 87 [.ptr 1081 0,Ed x,Eh b],I64 316,.fn 88 [.ptr 1081 0,Ed x],I64 315,.fn 89 [.ptr 1081 0,Ed x],I64 317,.fn 91 [.dptr (Move.cs x),.ptr 1081 0],I64 318,.fn 94 [.ptr 1081 0,Ed x,Eh b],I64 319])])] J0 (by kernel_rfl) rfl rfl ?_
  refine Gd (u:=.ptr 1196 0) O O ⟨Ge (Hx Hw O O O O) O,G⟩ (Gd (u:=.ptr 1196 0) O O ⟨Ge (Rn O O) O,G⟩ (Gd (u:=.ptr 1196 13) O O ⟨Ge (Hi Yh O O) O,G⟩ (Gd (u:=.mp 1197) O O ⟨Ge (Hx Yj O O O O) O,G⟩ (Gd (u:=.dptr ((Move.cs x).drop 2)) O O ⟨Ge (G9 Jw O O O) O,G⟩ (Gd (u:=.agg (Slot.cs x.Slot)) O O ⟨Ge (Gj Hu O O O) O,G⟩ (Gd (u:=.agg (Box.cs b)) O O ⟨Ge (Gj Ym O O O) O,G⟩ (H8d (u:=.junk) O O O O (Ge (G6f (m:=m.on) (a:=x.Slot) (v:=b) (fun _=>O) O O O O O O Qeb G52) O) (Qw (i ?_)))))))))
  refine Jr fun j=>(JLh (.ptr 1196 0) (Hx Hw O O O O) O (JLh (.ptr 1196 0) (Rn O O) O (JLh (.ptr 1196 16) (Hi Gc1 O O) O (JLh (I64 m.lifts) (Hx Gc O O O O) O ?_))))
  obtain⟨d,k,h⟩:=Je h
  refine JLh (I64 d) (Jg k O O O) O (JLh (.ptr 1196 0) (Rn O O) O (JLh (.ptr 1196 16) (Hi Gc1 O O) O (Hp (u:=.junk) (Hc (u:=I64 d) (ds:=[E3 m.ship.Columns,E7 m.ship.Covers,I64 m.ship.Light.Kilos,I64 m.ship.Light.X,I64 m.ship.Light.Y,I64 m.ship.Light.Z,E4 m.ship.Rows,E5 m.ship.Frames,E6 m.ship.Tanks,I64 m.ship.G4.Tolerance,I64 m.ship.G4.Trim,I64 m.ship.G4.List_,I64 m.ship.G4.Stability,.mp 1197,.mp 1198,.mp 1199,I64 d]) G32 O O O O O O O O) (G5 (j (Jr fun l=>(JLm (I64 0) O (G5 (l (Gq ?_))))))))))
  obtain rfl:=M5 h
  exact⟨[I64 0],[(1196,.box 97 [E3 m.ship.Columns,E7 m.ship.Covers,I64 m.ship.Light.Kilos,I64 m.ship.Light.X,I64 m.ship.Light.Y,I64 m.ship.Light.Z,E4 m.ship.Rows,E5 m.ship.Frames,E6 m.ship.Tanks,I64 m.ship.G4.Tolerance,I64 m.ship.G4.Trim,I64 m.ship.G4.List_,I64 m.ship.G4.Stability,.mp 1197,.mp 1198,.mp 1199,I64 d]),(1197,TP 93 Slot.kv Box.av (Gu.put m.on x.Slot b)),(1198,TP 94 Kq Box.av (Gu.del m.quay x.Box)),(1199,TP 95 Kq I64 m.open_)],⟨fbQ O (.sm O O),fmQ O,fmQ O,fmQ O,G⟩,rfl,⟨⟨_,rfl,.conv (.same rfl)⟩,G⟩,rfl,rfl⟩

def G1f (m:Gb) (x:Move):Option (Int×Gb):=
 jp (fun a=>
  bif decide (x.Kind=1) then
  (a (decide (x.Kind=1)))
  else
  (a (decide (x.Kind=4)))) fun(e:Bool)=>
 bif e then
 (bnd (G14 m (Move.mk x.Kind x.Box x.Slot x.G8)) fun b=>
  some (b.1,b.2))
 else
 (bif decide (x.Kind=2) then
  (bnd (Gcb m (Move.mk x.Kind x.Box x.Slot x.G8)) fun c=>
   some (c.1,c.2))
  else
  (bif decide (x.Kind=3) then
   (bnd (Gfc m (Move.mk x.Kind x.Box x.Slot x.G8)) fun d=>
    some (d.1,d.2))
   else
   (some (310,m))))
abbrev K0 (m:Gb):List AV:=[E3 m.ship.Columns,E7 m.ship.Covers,I64 m.ship.Light.Kilos,I64 m.ship.Light.X,I64 m.ship.Light.Y,I64 m.ship.Light.Z,E4 m.ship.Rows,E5 m.ship.Frames,E6 m.ship.Tanks,I64 m.ship.G4.Tolerance,I64 m.ship.G4.Trim,I64 m.ship.G4.List_,I64 m.ship.G4.Stability,.mp 1197,.mp 1198,.mp 1199,I64 m.lifts]
theorem Ga3 (m:Gb) (x:Move) (r:Int×Gb) (h:G1f m x=some r):Jh Eo 8 [.ptr 1196 0,.agg (Move.cs x)] [(1196,.box 97 [E3 m.ship.Columns,E7 m.ship.Covers,I64 m.ship.Light.Kilos,I64 m.ship.Light.X,I64 m.ship.Light.Y,I64 m.ship.Light.Z,E4 m.ship.Rows,E5 m.ship.Frames,E6 m.ship.Tanks,I64 m.ship.G4.Tolerance,I64 m.ship.G4.Trim,I64 m.ship.G4.List_,I64 m.ship.G4.Stability,.mp 1197,.mp 1198,.mp 1199,I64 m.lifts]),(1197,TP 93 Slot.kv Box.av m.on),(1198,TP 94 Kq Box.av m.quay),(1199,TP 95 Kq I64 m.open_)] (fun av L'=>av=I64 r.1∧L'=[(1196,.box 97 [E3 r.2.ship.Columns,E7 r.2.ship.Covers,I64 r.2.ship.Light.Kilos,I64 r.2.ship.Light.X,I64 r.2.ship.Light.Y,I64 r.2.ship.Light.Z,E4 r.2.ship.Rows,E5 r.2.ship.Frames,E6 r.2.ship.Tanks,I64 r.2.ship.G4.Tolerance,I64 r.2.ship.G4.Trim,I64 r.2.ship.G4.List_,I64 r.2.ship.G4.Stability,.mp 1197,.mp 1198,.mp 1199,I64 r.2.lifts]),(1197,TP 93 Slot.kv Box.av r.2.on),(1198,TP 94 Kq Box.av r.2.quay),(1199,TP 95 Kq I64 r.2.open_)]):=by
 unfold G1f at h
 refine Q9 [1196,1197,1198,1199] [.tmp 4] Tryz.func8 O O (G56 O) (Jr fun q=>(JLh (.ptr 1021 0) (Jm (cs:=[U8 x.Kind,I64 x.Box,I64 x.Slot.G2,I64 x.Slot.Tier,U8 x.Slot.Half,I64 x.G8]) 1021 O O O O O) O (JLm (I64 0) O (G5 (q ?_)))))
 refine Gm [(0,.ptr 1196 0),(3,Ed x)] [(1196,.box 97 (K0 m)),(1197,TP 93 Slot.kv Box.av m.on),(1198,TP 94 Kq Box.av m.quay),(1199,TP 95 Kq I64 m.open_)] 1021 rfl rfl rfl ⟨⟨_,rfl,.boxEq rfl rfl⟩,fmQ O,fmQ O,fmQ O,G⟩ rfl (by exact⟨.conv (.same rfl),.ptr,G⟩) (Js fun s=>?_)
 refine Jr fun t=>(JLm (.ptr 1196 0) O (JLh (BL true) (Zc (args:=[.dptr (Gb.cs m)]) O (Yr m true O) G8b ⟨.ptrL O (dnQ 13 O O ⟨.mp O,.mp O,.mp O,.data O O,G⟩),G⟩ O) O (JLh (BL false) (Qx (b:=true) O O) O (G5 (t (G2e O (Gr (s (Js fun u=>Jr fun v=>(JLh (Ed x) (G9 G7b O O O) O (JLh (U8 x.Kind) (Gh Ho O O O) O (G5 (v (Gx ?_))))))))))))))
 obtain⟨w,f,h⟩:=Yy h
 refine Ri (fun e:Bool=>w e=some r) (fun e=>[(0,.ptr 1196 0),(3,Ed x),(9,U8 x.Kind),(10,BL e)]) (fun e=>[(1196,.box 97 (K0 m)),(1197,TP 93 Slot.kv Box.av m.on),(1198,TP 94 Kq Box.av m.quay),(1199,TP 95 Kq I64 m.open_)]) (fun Kj7 ej7=>?_) ?_
 ·
  refine Jr fun y=>(JLh (BL (decide (x.Kind=1))) (Q0 O O O) O (JLm (BL (decide (x.Kind=1))) O (G5 (y (JCc O h (fun h hb=>?_) (fun h hb=>?_))))))
  ·
   refine Gr (ej7 _ _ (decide (x.Kind=1)) h ⟨(.sm O O),⟨fbQ O (.sm O O),fmQ O,fmQ O,fmQ O,G⟩,rfl⟩)
  ·
   refine G1 (JLh (BL (decide (x.Kind=4))) (Q0 O O O) O (JLm (BL (decide (x.Kind=4))) O (G5 (ej7 _ _ (decide (x.Kind=4)) h ⟨(.sm O O),⟨fbQ O (.sm O O),fmQ O,fmQ O,fmQ O,G⟩,rfl⟩))))
 ·intro e h
  replace h:=app1 f h
  refine JCc O h ?_ ?_<;>intro h hb
  ·
   refine Jr fun z=>(JLm (.ptr 1196 0) O (JLh (.agg (Move.cs x)) (Gj G33 O O O) O ?_))
   obtain⟨a,g,h⟩:=Ga h
   refine JLh (I64 a.1) (Ru (args:=[.ptr 1196 0,.agg (Move.cs x)]) (L0:=[(1196,.box 97 (K0 m)),(1197,TP 93 Slot.kv Box.av m.on),(1198,TP 94 Kq Box.av m.quay),(1199,TP 95 Kq I64 m.open_)]) (Lr:=[(1196,.box 97 [E3 a.2.ship.Columns,E7 a.2.ship.Covers,I64 a.2.ship.Light.Kilos,I64 a.2.ship.Light.X,I64 a.2.ship.Light.Y,I64 a.2.ship.Light.Z,E4 a.2.ship.Rows,E5 a.2.ship.Frames,E6 a.2.ship.Tanks,I64 a.2.ship.G4.Tolerance,I64 a.2.ship.G4.Trim,I64 a.2.ship.G4.List_,I64 a.2.ship.G4.Stability,.mp 1197,.mp 1198,.mp 1199,I64 a.2.lifts]),(1197,TP 93 Slot.kv Box.av a.2.on),(1198,TP 94 Kq Box.av a.2.quay),(1199,TP 95 Kq I64 a.2.open_)]) O (Jc0 m (Move.mk x.Kind x.Box x.Slot x.G8) a g) Rdb ⟨.inl O,O,.inl O,O,G⟩ ⟨O,O,O,O,G⟩ O O O) O (JLm (I64 a.1) O (G5 (z ?_)))
   refine Gq ?_
   obtain rfl:=M5 h
   exact⟨[I64 a.1],[(1196,.box 97 [E3 a.2.ship.Columns,E7 a.2.ship.Covers,I64 a.2.ship.Light.Kilos,I64 a.2.ship.Light.X,I64 a.2.ship.Light.Y,I64 a.2.ship.Light.Z,E4 a.2.ship.Rows,E5 a.2.ship.Frames,E6 a.2.ship.Tanks,I64 a.2.ship.G4.Tolerance,I64 a.2.ship.G4.Trim,I64 a.2.ship.G4.List_,I64 a.2.ship.G4.Stability,.mp 1197,.mp 1198,.mp 1199,I64 a.2.lifts]),(1197,TP 93 Slot.kv Box.av a.2.on),(1198,TP 94 Kq Box.av a.2.quay),(1199,TP 95 Kq I64 a.2.open_)],⟨fbQ O (.sm O O),fmQ O,fmQ O,fmQ O,G⟩,rfl,⟨⟨_,rfl,.conv (.same rfl)⟩,G⟩,rfl,rfl⟩
  ·
   refine Jr fun i=>(JLh (BL (decide (x.Kind=2))) (Q0 O O O) O (JLm (BL (decide (x.Kind=2))) O (G5 (i (JCc O h (fun h hb=>?_) (fun h hb=>?_))))))
   ·
    refine Jr fun j=>(JLm (.ptr 1196 0) O (JLh (.agg (Move.cs x)) (Gj G33 O O O) O ?_))
    obtain⟨c,k,h⟩:=Ga h
    refine JLh (I64 c.1) (Ru (args:=[.ptr 1196 0,.agg (Move.cs x)]) (L0:=[(1196,.box 97 (K0 m)),(1197,TP 93 Slot.kv Box.av m.on),(1198,TP 94 Kq Box.av m.quay),(1199,TP 95 Kq I64 m.open_)]) (Lr:=[(1196,.box 97 [E3 c.2.ship.Columns,E7 c.2.ship.Covers,I64 c.2.ship.Light.Kilos,I64 c.2.ship.Light.X,I64 c.2.ship.Light.Y,I64 c.2.ship.Light.Z,E4 c.2.ship.Rows,E5 c.2.ship.Frames,E6 c.2.ship.Tanks,I64 c.2.ship.G4.Tolerance,I64 c.2.ship.G4.Trim,I64 c.2.ship.G4.List_,I64 c.2.ship.G4.Stability,.mp 1197,.mp 1198,.mp 1199,I64 c.2.lifts]),(1197,TP 93 Slot.kv Box.av c.2.on),(1198,TP 94 Kq Box.av c.2.quay),(1199,TP 95 Kq I64 c.2.open_)]) O (Q38 m (Move.mk x.Kind x.Box x.Slot x.G8) c k) Rda ⟨.inl O,O,.inl O,O,G⟩ ⟨O,O,O,O,G⟩ O O O) O (JLm (I64 c.1) O (G5 (j ?_)))
    refine Gq ?_
    obtain rfl:=M5 h
    exact⟨[I64 c.1],[(1196,.box 97 [E3 c.2.ship.Columns,E7 c.2.ship.Covers,I64 c.2.ship.Light.Kilos,I64 c.2.ship.Light.X,I64 c.2.ship.Light.Y,I64 c.2.ship.Light.Z,E4 c.2.ship.Rows,E5 c.2.ship.Frames,E6 c.2.ship.Tanks,I64 c.2.ship.G4.Tolerance,I64 c.2.ship.G4.Trim,I64 c.2.ship.G4.List_,I64 c.2.ship.G4.Stability,.mp 1197,.mp 1198,.mp 1199,I64 c.2.lifts]),(1197,TP 93 Slot.kv Box.av c.2.on),(1198,TP 94 Kq Box.av c.2.quay),(1199,TP 95 Kq I64 c.2.open_)],⟨fbQ O (.sm O O),fmQ O,fmQ O,fmQ O,G⟩,rfl,⟨⟨_,rfl,.conv (.same rfl)⟩,G⟩,rfl,rfl⟩
   ·
    refine Jr fun l=>(JLh (BL (decide (x.Kind=3))) (Q0 O O O) O (JLm (BL (decide (x.Kind=3))) O (G5 (l (JCc O h (fun h hb=>?_) (fun h hb=>?_))))))
    ·
     refine Jr fun n=>(JLm (.ptr 1196 0) O (JLh (.agg (Move.cs x)) (Gj G33 O O O) O ?_))
     obtain⟨d,o,h⟩:=Ga h
     refine JLh (I64 d.1) (Ru (args:=[.ptr 1196 0,.agg (Move.cs x)]) (L0:=[(1196,.box 97 (K0 m)),(1197,TP 93 Slot.kv Box.av m.on),(1198,TP 94 Kq Box.av m.quay),(1199,TP 95 Kq I64 m.open_)]) (Lr:=[(1196,.box 97 [E3 d.2.ship.Columns,E7 d.2.ship.Covers,I64 d.2.ship.Light.Kilos,I64 d.2.ship.Light.X,I64 d.2.ship.Light.Y,I64 d.2.ship.Light.Z,E4 d.2.ship.Rows,E5 d.2.ship.Frames,E6 d.2.ship.Tanks,I64 d.2.ship.G4.Tolerance,I64 d.2.ship.G4.Trim,I64 d.2.ship.G4.List_,I64 d.2.ship.G4.Stability,.mp 1197,.mp 1198,.mp 1199,I64 d.2.lifts]),(1197,TP 93 Slot.kv Box.av d.2.on),(1198,TP 94 Kq Box.av d.2.quay),(1199,TP 95 Kq I64 d.2.open_)]) O (Qbc m (Move.mk x.Kind x.Box x.Slot x.G8) d o) Rd9 ⟨.inl O,O,.inl O,O,G⟩ ⟨O,O,O,O,G⟩ O O O) O (JLm (I64 d.1) O (G5 (n ?_)))
     refine Gq ?_
     obtain rfl:=M5 h
     exact⟨[I64 d.1],[(1196,.box 97 [E3 d.2.ship.Columns,E7 d.2.ship.Covers,I64 d.2.ship.Light.Kilos,I64 d.2.ship.Light.X,I64 d.2.ship.Light.Y,I64 d.2.ship.Light.Z,E4 d.2.ship.Rows,E5 d.2.ship.Frames,E6 d.2.ship.Tanks,I64 d.2.ship.G4.Tolerance,I64 d.2.ship.G4.Trim,I64 d.2.ship.G4.List_,I64 d.2.ship.G4.Stability,.mp 1197,.mp 1198,.mp 1199,I64 d.2.lifts]),(1197,TP 93 Slot.kv Box.av d.2.on),(1198,TP 94 Kq Box.av d.2.quay),(1199,TP 95 Kq I64 d.2.open_)],⟨fbQ O (.sm O O),fmQ O,fmQ O,fmQ O,G⟩,rfl,⟨⟨_,rfl,.conv (.same rfl)⟩,G⟩,rfl,rfl⟩
    ·
     refine Gr (u (Jr fun p=>(JLm (I64 310) O (G5 (p (Gq ?_))))))
     obtain rfl:=M5 h
     exact⟨[I64 310],[(1196,.box 97 (K0 m)),(1197,TP 93 Slot.kv Box.av m.on),(1198,TP 94 Kq Box.av m.quay),(1199,TP 95 Kq I64 m.open_)],⟨fbQ O (.sm O O),fmQ O,fmQ O,fmQ O,G⟩,rfl,⟨⟨_,rfl,.conv (.same rfl)⟩,G⟩,rfl,rfl⟩
end
end Go.Proofs.YtidpfkmbfgihlaaGreat
