/- Walks of functions. -/
import Derived.Test.YtmfhaflabpnaoaaGreatSpecK
set_option maxRecDepth 100000
set_option maxHeartbeats 1000000
set_option linter.unusedVariables false
set_option linter.unusedSimpArgs false
namespace Go.Proofs.YtmfhaflabpnaoaaGreat
open Go.RowKit
noncomputable section

namespace XTF
open XAF
open XLF
open XCF
open XSF
open XKF
theorem Gc4:H9 Ek 119=true:=by kernel_rfl
theorem Qe5:H9 Ek 121=true:=by kernel_rfl
theorem R4f:H9 Ek 42=true:=by kernel_rfl
theorem R4e:H9 Ek 43=true:=by kernel_rfl
theorem R4d:H9 Ek 44=true:=by kernel_rfl
theorem Jf7:H9 Ek 54=true:=by kernel_rfl
theorem Jf6:H9 Ek 55=true:=by kernel_rfl
theorem Jf5:H9 Ek 56=true:=by kernel_rfl
theorem R43:H9 Ek 71=true:=by kernel_rfl
theorem J1a:H9 Ek 72=true:=by kernel_rfl
theorem R42:H9 Ek 73=true:=by kernel_rfl
theorem J19:H9 Ek 75=true:=by kernel_rfl
theorem Ge8:H9 Ek 76=true:=by kernel_rfl
theorem R41:H9 Ek 77=true:=by kernel_rfl
theorem R40:H9 Ek 78=true:=by kernel_rfl
theorem R3f:H9 Ek 79=true:=by kernel_rfl
theorem R3e:H9 Ek 80=true:=by kernel_rfl
theorem Jee:H9 Ek 81=true:=by kernel_rfl
theorem R3d:H9 Ek 82=true:=by kernel_rfl
theorem R3c:H9 Ek 83=true:=by kernel_rfl
theorem R3b:H9 Ek 84=true:=by kernel_rfl
theorem R3a:H9 Ek 85=true:=by kernel_rfl
theorem R39:H9 Ek 86=true:=by kernel_rfl
theorem R38:H9 Ek 87=true:=by kernel_rfl
theorem R37:H9 Ek 88=true:=by kernel_rfl
theorem R36:H9 Ek 89=true:=by kernel_rfl
theorem Jed:H9 Ek 90=true:=by kernel_rfl
theorem Zu:Jz Ek 52 0 0=true:=by kernel_rfl
theorem Y4:Jz Ek 52 1 1=true:=by kernel_rfl
theorem Qd:Jz Ek 52 2 2=true:=by kernel_rfl
theorem Rc:Jz Ek 52 3 5=true:=by kernel_rfl
theorem G1b:Jz Ek 79 2 14=true:=by kernel_rfl
theorem Jg:Rm Ek 40=true:=by kernel_rfl
theorem H2b:Zh Ek 3 1=true:=by kernel_rfl
theorem Rc3:Zh Ek 4 1=true:=by kernel_rfl
theorem R30:Yb Ek 4 1=true:=by kernel_rfl
theorem J39:(Ek.info? 84).bind (·.zero)=some (.agg #[E0,.string ByteArray.empty,.int .u8 0,.bool false,E0,E0,E0,.int .u8 0,.bool false]):=by kernel_rfl
end XTF
open XAF
open XLF
open XCF
open XSF
open XKF
open XTF

def G13 (y:Slot) (a:Gh) (c:Move):Option Bool:=
 Qr a.ship.Columns y.G1 fun b=>
 bnd (bif b.Deck then G2b a.ship y.G1 else some default) fun d=>
 some (b.Deck&&(decide (d=c.Ga)))
theorem Hc9 (y:Slot) (a:Gh) (b:Move) (r:Bool) (h:G13 y a b=some r):Pure Ek 73 [.agg [I64 y.G1,I64 y.Tier,U8 y.Half],.dptr [.dptr (Gh.cs a)],Ec b] (·=BL r):=by
 unfold G13 at h
 refine H3 [.tmp 4] Tryz.func73 O O (Jr fun e=>(JLh (.ptr 1107 0) (Ju (cs:=[I64 y.G1,I64 y.Tier,U8 y.Half]) 1107 O O O O O) O (JLm (BL false) O (G8 (e (Gu [(1,.dptr [.dptr (Gh.cs a)]),(2,Ec b),(3,.dptr [I64 y.G1,I64 y.Tier,U8 y.Half])] [] 1107 rfl rfl rfl G rfl (by exact⟨.conv (.same rfl),.conv (.same rfl),.ptr,G⟩) (Js fun g=>?_)))))))
 obtain⟨l,c,i,j,h⟩:=Rr h
 obtain⟨d,k,h⟩:=Gj h
 refine JC_d0 Ho (by kernel_rfl) (Dq (Ed a) (Ge Jg O O O) O (Dq (Ed a) (G61 O O) O (Dq (Ed a) (Gb Rb O O O) O (Dq (Ed a) (Gb Hh O O O) O (Dq (E3 a.ship.Columns) (Ge Hn O O O) O (Dq (.dptr [I64 y.G1,I64 y.Tier,U8 y.Half]) (Gb Hu O O O) O (Dq (I64 y.G1) (Ge Gd O O O) O (Dq (Eh c) (H0 (f:=G1.av) (xs:=a.ship.Columns) (y:=c) O O O Hk j i) O (Dq (.dptr ((G1.cs c).drop 2)) (Gb Z4 O O O) O (Dq (BL c.Deck) (Ge Re O O O) O (Dq (BL c.Deck) (G7 O O) O (Do (Ed a) [] O .sct G (fun hc=>Ge Jg O O O) O (Do (Ed a) [16] O .sct ⟨Ua,G⟩ (fun hc=>G61 O O) O ?_)))))))))))))
 refine Do (Ed a) [17] O .sct ⟨Ua,G⟩ (fun hc=>Gb Rb O O O) O (Do (.agg (G6.cs a.ship)) [18] O .sct ⟨Ua,G⟩ (fun hc=>Gt Jm O O O) O (Do (.dptr [I64 y.G1,I64 y.Tier,U8 y.Half]) [] O .sct G (fun hc=>Gb Hu O O O) O (Do (I64 y.G1) [20] O .sct ⟨Ua,G⟩ (fun hc=>Ge Gd O O O) O (Do (I64 d) [19,21] O .sct ⟨Ua,Ua,G⟩ (fun hc=>Gw (args:=[.agg (G6.cs a.ship),I64 y.G1]) O (H8c a.ship y.G1 d (H1 hc k)) Jef ⟨O,O,O,O,G⟩) O (Do (.dptr [I64 b.Ga]) [] O .sct G (fun hc=>Gb Rc O O O) O (Do (I64 b.Ga) [23] O .sct ⟨Ua,G⟩ (fun hc=>Ge Gd O O O) O (Do (BL (decide (d=b.Ga))) [22,24] O .sct ⟨Ua,Ua,G⟩ (fun hc=>Jk O O O) O (Dq (BL (c.Deck&&(decide (d=b.Ga)))) (Jv O O O O) O (Dq (BL (c.Deck&&(decide (d=b.Ga)))) (G9 O O) O (Dnil ?_))))))))))
 refine g (Gs (fin1 BL h))

def G07 (a:Bool) (b:Gh) (c:Move):Option Bool:=
 bnd (bif (!(!a)) then Zy b (fun z0=>G13 z0 b c) else some default) fun d=>
 some ((!a)||(!d))
theorem J05 (c:Bool) (a:Gh) (d:Move) (r:Bool) (h:G07 c a d=some r):Pure Ek 71 [.dptr [BL c],.dptr [.dptr (Gh.cs a)],Ec d] (·=BL r):=by
 unfold G07 at h
 refine H3 [.tmp 3] Tryz.func71 O O (Jr fun f=>(JLm (BL false) O (G8 (f (Jr fun g=>(JLh (BL c) (Ge Re O O O) O (JLh (BL (!c)) (R2 (b:=c) O O) O (JLm (BL (!c)) O (JLo (Ed a) [] O .scf G (fun hc=>Ge Jg O O O) O (JLo (.fn 73 [.dptr [.dptr (Gh.cs a)],Ec d]) [] O .scf G (fun hc=>R0 (cs:=[.dptr [.dptr (Gh.cs a)],Ec d]) O O) O ?_))))))))))
 obtain⟨e,i,h⟩:=Gj h
 refine JLo (BL e) [7,8] O .scf ⟨Ua,Ua,G⟩ (fun hc=>Gw (args:=[.dptr (Gh.cs a),.fn 73 [.dptr [.dptr (Gh.cs a)],Ec d]]) O (H14.down a (fun z0=>G13 z0 a d) 73 [.dptr [.dptr (Gh.cs a)],Ec d] R42 O (fun z0 q hq=>Hc9 z0 a d q hq) e (H1 hc i)) J1a ⟨O,O,O,O,G⟩) O (JLo (BL (!e)) [9] O .scf ⟨Ua,G⟩ (fun hc=>R2 (b:=e) O O) O (JLh (BL ((!c)||(!e))) (Ya O O O O) O (JLm (BL ((!c)||(!e))) O (G8 (g (Gs (fin1 BL h)))))))

def G0d (m:Gh) (x:Move):Option (Int×Gh):=
 bnd (H0d ((((decide (x.Box=0))&&(decide (x.Slot=(Slot.mk 0 0 0))))&&(decide (0≤x.Ga)))&&(decide (x.Ga < (m.ship.Covers.length:Int)))) 310) fun g=>
 bnd (some (Gv.get m.open_ x.Ga 0)) fun b=>
 bnd (H0d (!((decide (0 < b))==(decide (x.Kind=1)))) 311) fun h=>
 bnd (Gf9 [(Ys ((((decide (x.Box=0))&&(decide (x.Slot=(Slot.mk 0 0 0))))&&(decide (0≤x.Ga)))&&(decide (x.Ga < (m.ship.Covers.length:Int)))),310),
  (Ys (!((decide (0 < b))==(decide (x.Kind=1)))),311),
  (G07 (decide (x.Kind=1)) m (Move.mk x.Kind x.Box x.Slot x.Ga),312)]) fun c=>
 bif decide (c≠0) then
 (some (c,m))
 else
 (jp (fun a=>
   bif decide (x.Kind=1) then
   (bnd (some (Gv.get m.open_ x.Ga 0)) fun d=>
    chk (d+1) fun e=>
    a (Gh.mk m.ship m.on m.quay (Gv.put m.open_ x.Ga e) m.lifts))
   else
   (a (Gh.mk m.ship m.on m.quay (Gv.del m.open_ x.Ga) m.lifts))) fun(f:Gh)=>
  some (0,f))
abbrev Ep (m:Gh):List AV:=[E3 m.ship.Columns,E7 m.ship.Covers,I64 m.ship.Light.Kilos,I64 m.ship.Light.X,I64 m.ship.Light.Y,I64 m.ship.Light.Z,E4 m.ship.Rows,E5 m.ship.Frames,E6 m.ship.Tanks,I64 m.ship.G5.Tolerance,I64 m.ship.G5.Trim,I64 m.ship.G5.List_,I64 m.ship.G5.Stability,.mp 1159,.mp 1160,.mp 1161,I64 m.lifts]
abbrev Er (x:Move) (m:Gh):List AV:=[.dptr [BL ((((decide (x.Box=0))&&(decide (x.Slot=(Slot.mk 0 0 0))))&&(decide (0≤x.Ga)))&&(decide (x.Ga < (m.ship.Covers.length:Int))))]]
abbrev Es (x:Move):List AV:=[.dptr [BL (decide (x.Kind=1))],.ptr 1058 0,Ec x]
abbrev Eu (a:Gh):List AV:=[E3 a.ship.Columns,E7 a.ship.Covers,I64 a.ship.Light.Kilos,I64 a.ship.Light.X,I64 a.ship.Light.Y,I64 a.ship.Light.Z,E4 a.ship.Rows,E5 a.ship.Frames,E6 a.ship.Tanks,I64 a.ship.G5.Tolerance,I64 a.ship.G5.Trim,I64 a.ship.G5.List_,I64 a.ship.G5.Stability,.mp 1159,.mp 1160,.mp 1161,I64 a.lifts]
theorem J5e (m:Gh) (x:Move) (r:Int×Gh) (h:G0d m x=some r):Jx Ek 42 [.ptr 1158 0,.agg (Move.cs x)] [(1158,.box 79 [E3 m.ship.Columns,E7 m.ship.Covers,I64 m.ship.Light.Kilos,I64 m.ship.Light.X,I64 m.ship.Light.Y,I64 m.ship.Light.Z,E4 m.ship.Rows,E5 m.ship.Frames,E6 m.ship.Tanks,I64 m.ship.G5.Tolerance,I64 m.ship.G5.Trim,I64 m.ship.G5.List_,I64 m.ship.G5.Stability,.mp 1159,.mp 1160,.mp 1161,I64 m.lifts]),(1159,TP 75 Slot.kv Box.av m.on),(1160,TP 76 Kn Box.av m.quay),(1161,TP 77 Kn I64 m.open_)] (fun av L'=>av=I64 r.1∧L'=[(1158,.box 79 [E3 r.2.ship.Columns,E7 r.2.ship.Covers,I64 r.2.ship.Light.Kilos,I64 r.2.ship.Light.X,I64 r.2.ship.Light.Y,I64 r.2.ship.Light.Z,E4 r.2.ship.Rows,E5 r.2.ship.Frames,E6 r.2.ship.Tanks,I64 r.2.ship.G5.Tolerance,I64 r.2.ship.G5.Trim,I64 r.2.ship.G5.List_,I64 r.2.ship.G5.Stability,.mp 1159,.mp 1160,.mp 1161,I64 r.2.lifts]),(1159,TP 75 Slot.kv Box.av r.2.on),(1160,TP 76 Kn Box.av r.2.quay),(1161,TP 77 Kn I64 r.2.open_)]):=by
 unfold G0d at h
 refine Ye [1158,1159,1160,1161] [.tmp 4] Tryz.func42 O O (H18 O) (Jr fun s=>(JLh (.ptr 1058 0) (Ju (cs:=[.ptr 1158 0]) 1058 O O O O O) O (JLh (.ptr 1059 0) (Ju (cs:=[U8 x.Kind,I64 x.Box,I64 x.Slot.G1,I64 x.Slot.Tier,U8 x.Slot.Half,I64 x.Ga]) 1059 O O O O O) O (JLm (I64 0) O (G8 (s ?_))))))
 refine Gu [(2,.ptr 1058 0),(3,Ec x)] [(1158,.box 79 (Ep m)),(1159,TP 75 Slot.kv Box.av m.on),(1160,TP 76 Kn Box.av m.quay),(1161,TP 77 Kn I64 m.open_),(1058,.box 40 [.ptr 1158 0])] 1059 rfl rfl rfl ⟨⟨_,rfl,.boxEq rfl rfl⟩,fmQ O,fmQ O,fmQ O,⟨_,rfl,.boxEq rfl rfl⟩,G⟩ rfl (by exact⟨.conv (.same rfl),.ptr,G⟩) ?_
 refine Jr fun t=>(JLh (Ec x) (Gb Zu O O O) O (JLh (U8 x.Kind) (Ge Hm O O O) O (JLh (BL (decide (x.Kind=1))) (Jk O O O) O (JLh (.ptr 1060 0) (Jn 1060 1 R30 O O) O (J9 (u:=.junk) (He (u:=BL (decide (x.Kind=1))) (ds:=[BL (decide (x.Kind=1))]) Rc3 O O O O O O O O) (G8 (t ?_)))))))
 refine Gu [(2,.ptr 1058 0),(3,Ec x),(5,.dptr [BL (decide (x.Kind=1))])] [(1158,.box 79 (Ep m)),(1159,TP 75 Slot.kv Box.av m.on),(1160,TP 76 Kn Box.av m.quay),(1161,TP 77 Kn I64 m.open_),(1058,.box 40 [.ptr 1158 0])] 1060 rfl rfl rfl ⟨⟨_,rfl,.boxEq rfl rfl⟩,fmQ O,fmQ O,fmQ O,⟨_,rfl,.boxEq rfl rfl⟩,G⟩ rfl (by exact⟨.conv (.same rfl),.conv (.same rfl),.ptr,G⟩) ?_
 refine Jr fun w=>(JLh (.fn 71 (Es x)) (R0 (cs:=(Es x)) O O) O (JLm (.fn 71 (Es x)) O (G8 (w (Js fun y=>?_)))))
 refine Qw (l':=[(2,.ptr 1058 0),(3,Ec x),(5,.dptr [BL (decide (x.Kind=1))]),(6,.fn 71 (Es x))]) (L':=[(1158,.box 79 (Ep m)),(1159,TP 75 Slot.kv Box.av m.on),(1160,TP 76 Kn Box.av m.quay),(1161,TP 77 Kn I64 m.open_),(1058,.box 40 [.ptr 1158 0])]) ⟨(.sm O O),⟨fbQ O (.sm O O),fmQ O,fmQ O,fmQ O,fbQ O ⟨.same rfl,G⟩,G⟩,rfl⟩ ?_
 obtain⟨r5,z,h⟩:=Gj h
 obtain⟨c,a0,h⟩:=Gj h
 obtain⟨r7,a1,h⟩:=Gj h
 obtain⟨d,a2,h⟩:=Gj h
 refine J4 [39] [0,0,0,0,0,0,0,0,0,0,0,0,0,0,0,0,0,0,0,0,0,0,0,0,0,0,0,0,0,0,0,0,0,0,0,0,0,0,0,0,1,1] [0,0,0,0,0,0,0,0,0,0,0,0,0,0,0,0,0,0,0,0,0,0,0,0,0,0,0,0,0,0,0,0,0,0,0,0,0,0,0,0,1,1] [[(1158,.box 79 (Ep m)),(1159,TP 75 Slot.kv Box.av m.on),(1160,TP 76 Kn Box.av m.quay),(1161,TP 77 Kn I64 m.open_),(1058,.box 40 [.ptr 1158 0])],((1061,.box 123 [.fn 119 (Er x m),I64 310,.fn 119 [.dptr [BL (!((decide (0 < c))==(decide (x.Kind=1))))]],I64 311,.fn 71 (Es x),I64 312])::[(1158,.box 79 (Ep m)),(1159,TP 75 Slot.kv Box.av m.on),(1160,TP 76 Kn Box.av m.quay),(1161,TP 77 Kn I64 m.open_),(1058,.box 40 [.ptr 1158 0])])] Ho (by kernel_rfl) rfl rfl ?_
 refine Gc (u:=.dptr ((Move.cs x).drop 1)) O O ⟨Gi (Gb Y4 O O O) O,G⟩ (Gc (u:=I64 x.Box) O O ⟨Gi (Ge Gd O O O) O,G⟩ (Gc (u:=BL (decide (x.Box=0))) O O ⟨Gi (Jk O O O) O,G⟩ (Gc (u:=BL (decide (x.Box=0))) O O ⟨Gi (G7 O O) O,G⟩ (Gc (u:=.opt (decide (x.Box=0)) (.dptr ((Move.cs x).drop 2))) O O ⟨Gk [] O O O .sct G (fun hc=>Gb Qd O O O) O,G⟩ (Gc (u:=.opt (decide (x.Box=0)) (.agg (Slot.cs x.Slot))) O O ⟨Gk [(16,.dptr ((Move.cs x).drop 2))] O O O .sct ⟨.all id,G⟩ (fun hc=>Gt Hx O O O) O,G⟩ (Gc (u:=.opt (decide (x.Box=0)) (.agg [I64 0,I64 0,U8 0])) O O ⟨Gk [] O O O .sct G (fun hc=>Hj (cs:=[I64 0,I64 0,U8 0]) [(0,1),(1,1),(2,1)] [I64 0,I64 0,U8 0] [E0,E0,.int .u8 0] H21 H31 (zzQ O) O O) O,G⟩ (Gc (u:=.opt (decide (x.Box=0)) (BL (decide (x.Slot=(Slot.mk 0 0 0))))) O O ⟨Gk [(17,.agg (Slot.cs x.Slot)),(18,.agg [I64 0,I64 0,U8 0])] O O O .sct ⟨.all id,.all id,G⟩ (fun hc=>Jd7 (vs:=[.int .i64 x.Slot.G1,.int .i64 x.Slot.Tier,.int .u8 x.Slot.Half]) (us:=[E0,E0,.int .u8 0]) 4 O (Qd3 x.Slot (Slot.mk 0 0 0)) H52 Hec O O O) O,G⟩ (Gc (u:=BL ((decide (x.Box=0))&&(decide (x.Slot=(Slot.mk 0 0 0))))) O O ⟨Gi (Jv O O O O) O,G⟩ (Gc (u:=BL ((decide (x.Box=0))&&(decide (x.Slot=(Slot.mk 0 0 0))))) O O ⟨Gi (G7 O O) O,G⟩ (Gc (u:=.opt ((decide (x.Box=0))&&(decide (x.Slot=(Slot.mk 0 0 0)))) (.dptr [I64 x.Ga])) O O ⟨Gk [] O O O .sct G (fun hc=>Gb Rc O O O) O,G⟩ (Gc (u:=.opt ((decide (x.Box=0))&&(decide (x.Slot=(Slot.mk 0 0 0)))) (I64 x.Ga)) O O ⟨Gk [(22,.dptr [I64 x.Ga])] O O O .sct ⟨.all id,G⟩ (fun hc=>Ge Gd O O O) O,G⟩ (Gc (u:=.opt ((decide (x.Box=0))&&(decide (x.Slot=(Slot.mk 0 0 0)))) (BL (decide (0≤x.Ga)))) O O ⟨Gk [(23,I64 x.Ga)] O O O .sct ⟨.all id,G⟩ (fun hc=>G4b O O O) O,G⟩ (Gc (u:=BL (((decide (x.Box=0))&&(decide (x.Slot=(Slot.mk 0 0 0))))&&(decide (0≤x.Ga)))) O O ⟨Gi (Jv O O O O) O,G⟩ ?_)))))))))))))
 refine Gc (u:=BL (((decide (x.Box=0))&&(decide (x.Slot=(Slot.mk 0 0 0))))&&(decide (0≤x.Ga)))) O O ⟨Gi (G7 O O) O,G⟩ (Gc (u:=.opt (((decide (x.Box=0))&&(decide (x.Slot=(Slot.mk 0 0 0))))&&(decide (0≤x.Ga))) (.dptr [I64 x.Ga])) O O ⟨Gk [] O O O .sct G (fun hc=>Gb Rc O O O) O,G⟩ (Gc (u:=.opt (((decide (x.Box=0))&&(decide (x.Slot=(Slot.mk 0 0 0))))&&(decide (0≤x.Ga))) (I64 x.Ga)) O O ⟨Gk [(27,.dptr [I64 x.Ga])] O O O .sct ⟨.all id,G⟩ (fun hc=>Ge Gd O O O) O,G⟩ (Gc (u:=.opt (((decide (x.Box=0))&&(decide (x.Slot=(Slot.mk 0 0 0))))&&(decide (0≤x.Ga))) (.ptr 1158 0)) O O ⟨Gk [] O O O .sct G (fun hc=>J8 Jg O O O O) O,G⟩ (Gc (u:=.opt (((decide (x.Box=0))&&(decide (x.Slot=(Slot.mk 0 0 0))))&&(decide (0≤x.Ga))) (.ptr 1158 0)) O O ⟨Gk [(29,.ptr 1158 0)] O O O .sct ⟨.all id,G⟩ (fun hc=>Ri O O) O,G⟩ (Gc (u:=.opt (((decide (x.Box=0))&&(decide (x.Slot=(Slot.mk 0 0 0))))&&(decide (0≤x.Ga))) (.ptr 1158 0)) O O ⟨Gk [(30,.ptr 1158 0)] O O O .sct ⟨.all id,G⟩ (fun hc=>Ht Rb O O) O,G⟩ (Gc (u:=.opt (((decide (x.Box=0))&&(decide (x.Slot=(Slot.mk 0 0 0))))&&(decide (0≤x.Ga))) (.ptr 1158 1)) O O ⟨Gk [(31,.ptr 1158 0)] O O O .sct ⟨.all id,G⟩ (fun hc=>Ht Jc O O) O,G⟩ (Gc (u:=.opt (((decide (x.Box=0))&&(decide (x.Slot=(Slot.mk 0 0 0))))&&(decide (0≤x.Ga))) (E7 m.ship.Covers)) O O ⟨Gk [(32,.ptr 1158 1)] O O O .sct ⟨.all id,G⟩ (fun hc=>J8 Ji O O O O) O,G⟩ (Gc (u:=.opt (((decide (x.Box=0))&&(decide (x.Slot=(Slot.mk 0 0 0))))&&(decide (0≤x.Ga))) (Ej m.ship.Covers.length)) O O ⟨Gk [(33,E7 m.ship.Covers)] O O O .sct ⟨.all id,G⟩ (fun hc=>G2d (f:=Ga.av) (xs:=m.ship.Covers) J7 O O) O,G⟩ (Gc (u:=.opt (((decide (x.Box=0))&&(decide (x.Slot=(Slot.mk 0 0 0))))&&(decide (0≤x.Ga))) (BL (decide (x.Ga < (m.ship.Covers.length:Int))))) O O ⟨Gk [(28,I64 x.Ga),(34,Ej m.ship.Covers.length)] O O O .sct ⟨.all id,.all id,G⟩ (fun hc=>Jq O O O) O,G⟩ (Gc (u:=BL ((((decide (x.Box=0))&&(decide (x.Slot=(Slot.mk 0 0 0))))&&(decide (0≤x.Ga)))&&(decide (x.Ga < (m.ship.Covers.length:Int))))) O O ⟨Gi (Jv O O O O) O,G⟩ (Gc (u:=.agg [.fn 119 (Er x m),I64 310]) O O ⟨Gi (Gw O (Gef ((((decide (x.Box=0))&&(decide (x.Slot=(Slot.mk 0 0 0))))&&(decide (0≤x.Ga)))&&(decide (x.Ga < (m.ship.Covers.length:Int)))) 310 r5 z) Ge8 ⟨O,O,O,O,G⟩) O,G⟩ (Gc (u:=.ptr 1158 0) O O ⟨Gi (J8 Jg O O O O) O,G⟩ (Gc (u:=.ptr 1158 0) O O ⟨Gi (Ri O O) O,G⟩ ?_)))))))))))))
 refine Gc (u:=.ptr 1158 15) O O ⟨Gi (Ht G6f O O) O,G⟩ (Gc (u:=.mp 1161) O O ⟨Gi (J8 G59 O O O O) O,G⟩ (Gc (u:=.dptr [I64 x.Ga]) O O ⟨Gi (Gb Rc O O O) O,G⟩ (Gc (u:=I64 x.Ga) O O ⟨Gi (Ge Gd O O O) O,G⟩ (Gc (u:=I64 c) O O ⟨Gi (((M2 a0) ▸ J33 (av:=I64) (m:=m.open_) (a:=x.Ga) 0 E0 (fun _=>O) O (.own O) O Jdc H2c H1d O)) O,G⟩ (Gc (u:=BL (decide (0 < c))) O O ⟨Gi (G08 O O O) O,G⟩ (Gc (u:=BL (decide (x.Kind=1))) O O ⟨Gi (Ge Re O O O) O,G⟩ (Gc (u:=BL (!((decide (0 < c))==(decide (x.Kind=1))))) O O ⟨Gi (Y3e Hed O O O) O,G⟩ (Gc (u:=.agg [.fn 119 [.dptr [BL (!((decide (0 < c))==(decide (x.Kind=1))))]],I64 311]) O O ⟨Gi (Gw O (Gef (!((decide (0 < c))==(decide (x.Kind=1)))) 311 r7 a1) Ge8 ⟨O,O,O,O,G⟩) O,G⟩ (Gc (u:=.fn 71 (Es x)) O O ⟨Gi (G7 O O) O,G⟩ (Gc (u:=.agg [.fn 71 (Es x),I64 312]) O O ⟨Gi (Hj (cs:=[.fn 71 (Es x),I64 312]) [(0,1),(1,1)] [.sc .nilFunc,I64 0] [.nilFunc,E0] Zt G1a (zzQ O) O O) O,G⟩ (D_w (u:=.ms 1061 0 3 3) O O O O (Gi (J8c 1061 (xs:=[.agg [.fn 119 (Er x m),I64 310],.agg [.fn 119 [.dptr [BL (!((decide (0 < c))==(decide (x.Kind=1))))]],I64 311],.agg [.fn 71 (Es x),I64 312]]) (cs:=[.fn 119 (Er x m),I64 310,.fn 119 [.dptr [BL (!((decide (0 < c))==(decide (x.Kind=1))))]],I64 311,.fn 71 (Es x),I64 312]) O ⟨O,O,O,G⟩ O Gcf H1e O O O O O) O) ?_)))))))))))
 refine Gc (u:=I64 d) O O ⟨Gi (G8e O (Q34.down [J6.mk 119 (Er x m) (Ys ((((decide (x.Box=0))&&(decide (x.Slot=(Slot.mk 0 0 0))))&&(decide (0≤x.Ga)))&&(decide (x.Ga < (m.ship.Covers.length:Int))))) 310 Gc4 O (fun q hq=>G97 ((((decide (x.Box=0))&&(decide (x.Slot=(Slot.mk 0 0 0))))&&(decide (0≤x.Ga)))&&(decide (x.Ga < (m.ship.Covers.length:Int)))) q hq),
 J6.mk 119 [.dptr [BL (!((decide (0 < c))==(decide (x.Kind=1))))]] (Ys (!((decide (0 < c))==(decide (x.Kind=1))))) 311 Gc4 rfl (fun q hq=>G97 (!((decide (0 < c))==(decide (x.Kind=1)))) q hq),
 J6.mk 71 [.dptr [BL (decide (x.Kind=1))],.dptr [.dptr (Gh.cs m)],Ec x] (G07 (decide (x.Kind=1)) m (Move.mk x.Kind x.Box x.Slot x.Ga)) 312 R43 rfl (fun q hq=>J05 (decide (x.Kind=1)) m (Move.mk x.Kind x.Box x.Slot x.Ga) q hq)] d a2) J19 ⟨.msL rfl rfl rfl ⟨.data O O,.data O O,.data O O,.data O O,.fnL ⟨.data O O,.ptrL rfl ⟨.ptrL rfl (dnQ 13 O O ⟨.mp rfl,.mp rfl,.mp rfl,.data O O,trivial⟩),trivial⟩,.data O O,trivial⟩,.data O O,trivial⟩,trivial⟩ rfl) rfl,trivial⟩ ?_ rfl
 refine Gc (u:=I64 d) O O ⟨Gi (G9 O O) O,G⟩ (Qp (y (Js fun a3=>Jr fun i=>(JLm (I64 d) O (JLh (BL (decide (d≠0))) (G2c O O O) O (G8 (i (JCc O h (fun h hb=>?_) (fun h hb=>?_)))))))))
 ·
  refine Jr fun j=>(JLm (I64 d) O (JLm (I64 d) O (G8 (j (Gs ?_)))))
  obtain rfl:=M2 h
  exact⟨[I64 d],[(1158,.box 79 (Ep m)),(1159,TP 75 Slot.kv Box.av m.on),(1160,TP 76 Kn Box.av m.quay),(1161,TP 77 Kn I64 m.open_)],⟨fbQ O (.sm O O),fmQ O,fmQ O,fmQ O,G⟩,rfl,⟨⟨_,rfl,.conv (.same rfl)⟩,G⟩,rfl,rfl⟩
 ·
  refine Gn (a3 ?_)
  obtain⟨k,g,h⟩:=Ga2 h
  refine G4d (fun b:Gh=>k b=some r) (fun b=>[]) (fun b=>[(1158,.box 79 (Eu b)),(1159,TP 75 Slot.kv Box.av b.on),(1160,TP 76 Kn Box.av b.quay),(1161,TP 77 Kn I64 b.open_),(1058,.box 40 [.ptr 1158 0]),(1061,.box 123 [.fn 119 (Er x m),I64 310,.fn 119 [.dptr [BL (!((decide (0 < c))==(decide (x.Kind=1))))]],I64 311,.fn 71 (Es x),I64 312])]) (fun Kj12 ej12=>?_) ?_
  ·
   refine Jr fun l=>(JLh (BL (decide (x.Kind=1))) (Ge Re O O O) O (G8 (l (JCc O h (fun h hb=>?_) (fun h hb=>?_)))))
   ·
    refine Qw (l':=[(2,.ptr 1058 0),(3,Ec x)]) (L':=[(1158,.box 79 (Ep m)),(1159,TP 75 Slot.kv Box.av m.on),(1160,TP 76 Kn Box.av m.quay),(1161,TP 77 Kn I64 m.open_),(1058,.box 40 [.ptr 1158 0]),(1061,.box 123 [.fn 119 (Er x m),I64 310,.fn 119 [.dptr [BL (!((decide (0 < c))==(decide (x.Kind=1))))]],I64 311,.fn 71 (Es x),I64 312])]) ⟨(.sm O O),⟨fbQ O (.sm O O),fmQ O,fmQ O,fmQ O,fbQ O ⟨.same rfl,G⟩,fbQ O (.sm O O),G⟩,rfl⟩ ?_
    obtain⟨a4,n,h⟩:=Gj h
    obtain⟨e,o,h⟩:=Zw h
    refine J4 [8] [0,0,0,0,0,0,0,0,0] [0,0,0,0,0,0,0,0,0] [[(1158,.box 79 (Ep m)),(1159,TP 75 Slot.kv Box.av m.on),(1160,TP 76 Kn Box.av m.quay),(1161,TP 77 Kn I64 m.open_),(1058,.box 40 [.ptr 1158 0]),(1061,.box 123 [.fn 119 (Er x m),I64 310,.fn 119 [.dptr [BL (!((decide (0 < c))==(decide (x.Kind=1))))]],I64 311,.fn 71 (Es x),I64 312])],((1161,TP 77 Kn I64 (Gv.put m.open_ x.Ga e))::[(1158,.box 79 (Ep m)),(1159,TP 75 Slot.kv Box.av m.on),(1160,TP 76 Kn Box.av m.quay),(1161,TP 77 Kn I64 m.open_),(1058,.box 40 [.ptr 1158 0]),(1061,.box 123 [.fn 119 (Er x m),I64 310,.fn 119 [.dptr [BL (!((decide (0 < c))==(decide (x.Kind=1))))]],I64 311,.fn 71 (Es x),I64 312])])] Ho (by kernel_rfl) rfl rfl ?_
    refine Gc (u:=.ptr 1158 0) O O ⟨Gi (J8 Jg O O O O) O,G⟩ (Gc (u:=.ptr 1158 0) O O ⟨Gi (Ri O O) O,G⟩ (Gc (u:=.ptr 1158 15) O O ⟨Gi (Ht G6f O O) O,G⟩ (Gc (u:=.mp 1161) O O ⟨Gi (J8 G59 O O O O) O,G⟩ (Gc (u:=.dptr [I64 x.Ga]) O O ⟨Gi (Gb Rc O O O) O,G⟩ (Gc (u:=I64 x.Ga) O O ⟨Gi (Ge Gd O O O) O,G⟩ (Gc (u:=I64 a4) O O ⟨Gi (((M2 n) ▸ J33 (av:=I64) (m:=m.open_) (a:=x.Ga) 0 E0 (fun _=>O) O (.own O) O Jdc H2c H1d O)) O,G⟩ (Gc (u:=I64 e) O O ⟨Gi (Jo o O O O) O,G⟩ (Gf2 (u:=.junk) O O O O (Gi (G62 (m:=m.open_) (a:=x.Ga) (v:=e) (fun _=>O) O O O O O O Jdc H2c) O) (Qp ?_)))))))))
    exact ej12 _ _ (Gh.mk m.ship m.on m.quay (Gv.put m.open_ x.Ga e) m.lifts) h ⟨G,⟨fbQ O (.sm O O),fmQ O,fmQ O,fmQ O,fbQ O ⟨.same rfl,G⟩,fbQ O (.sm O O),G⟩,rfl⟩
   ·
    refine Qw (l':=[(2,.ptr 1058 0),(3,Ec x)]) (L':=[(1158,.box 79 (Ep m)),(1159,TP 75 Slot.kv Box.av m.on),(1160,TP 76 Kn Box.av m.quay),(1161,TP 77 Kn I64 m.open_),(1058,.box 40 [.ptr 1158 0]),(1061,.box 123 [.fn 119 (Er x m),I64 310,.fn 119 [.dptr [BL (!((decide (0 < c))==(decide (x.Kind=1))))]],I64 311,.fn 71 (Es x),I64 312])]) ⟨(.sm O O),⟨fbQ O (.sm O O),fmQ O,fmQ O,fmQ O,fbQ O ⟨.same rfl,G⟩,fbQ O (.sm O O),G⟩,rfl⟩ ?_
    refine J4 [6] [0,0,0,0,0,0,0] [0,0,0,0,0,0,0] [[(1158,.box 79 (Ep m)),(1159,TP 75 Slot.kv Box.av m.on),(1160,TP 76 Kn Box.av m.quay),(1161,TP 77 Kn I64 m.open_),(1058,.box 40 [.ptr 1158 0]),(1061,.box 123 [.fn 119 (Er x m),I64 310,.fn 119 [.dptr [BL (!((decide (0 < c))==(decide (x.Kind=1))))]],I64 311,.fn 71 (Es x),I64 312])],((1161,TP 77 Kn I64 (Gv.del m.open_ x.Ga))::[(1158,.box 79 (Ep m)),(1159,TP 75 Slot.kv Box.av m.on),(1160,TP 76 Kn Box.av m.quay),(1161,TP 77 Kn I64 m.open_),(1058,.box 40 [.ptr 1158 0]),(1061,.box 123 [.fn 119 (Er x m),I64 310,.fn 119 [.dptr [BL (!((decide (0 < c))==(decide (x.Kind=1))))]],I64 311,.fn 71 (Es x),I64 312])])] Ho (by kernel_rfl) rfl rfl ?_
    refine Gc (u:=.ptr 1158 0) O O ⟨Gi (J8 Jg O O O O) O,G⟩ (Gc (u:=.ptr 1158 0) O O ⟨Gi (Ri O O) O,G⟩ (Gc (u:=.ptr 1158 15) O O ⟨Gi (Ht G6f O O) O,G⟩ (Gc (u:=.mp 1161) O O ⟨Gi (J8 G59 O O O O) O,G⟩ (Gc (u:=.dptr [I64 x.Ga]) O O ⟨Gi (Gb Rc O O O) O,G⟩ (Gc (u:=I64 x.Ga) O O ⟨Gi (Ge Gd O O O) O,G⟩ (Gf2 (u:=.tup []) O O O O (Gi (Hb9 (m:=m.open_) (a:=x.Ga) (fun _=>O) O O O O Jdc H2c) O) (Qp (ej12 _ _ (Gh.mk m.ship m.on m.quay (Gv.del m.open_ x.Ga) m.lifts) h ⟨G,⟨fbQ O (.sm O O),fmQ O,fmQ O,fmQ O,fbQ O ⟨.same rfl,G⟩,fbQ O (.sm O O),G⟩,rfl⟩))))))))
  ·intro b h
   replace h:=app1 g h
   refine Jr fun p=>(JLm (I64 0) O (G8 (p (Gs ?_))))
   obtain rfl:=M2 h
   exact⟨[I64 0],[(1158,.box 79 (Eu b)),(1159,TP 75 Slot.kv Box.av b.on),(1160,TP 76 Kn Box.av b.quay),(1161,TP 77 Kn I64 b.open_)],⟨fbQ O (.sm O O),fmQ O,fmQ O,fmQ O,G⟩,rfl,⟨⟨_,rfl,.conv (.same rfl)⟩,G⟩,rfl,rfl⟩

def G3f (y:Slot) (a:Move):Option Bool:=
 bnd (H0b y a.Slot) fun b=>
 some b
theorem J04 (y:Slot) (a:Move) (r:Bool) (h:G3f y a=some r):Pure Ek 78 [.agg [I64 y.G1,I64 y.Tier,U8 y.Half],Ec a] (·=BL r):=by
 unfold G3f at h
 refine H3 [.tmp 3] Tryz.func78 O O (Jr fun c=>(JLh (.ptr 1113 0) (Ju (cs:=[I64 y.G1,I64 y.Tier,U8 y.Half]) 1113 O O O O O) O (JLm (BL false) O (G8 (c (Gu [(1,Ec a),(2,.dptr [I64 y.G1,I64 y.Tier,U8 y.Half])] [] 1113 rfl rfl rfl G rfl (by exact⟨.conv (.same rfl),.ptr,G⟩) (Jr fun d=>(JLh (.agg [I64 y.G1,I64 y.Tier,U8 y.Half]) (Gt Hx O O O) O (JLh (.dptr ((Move.cs a).drop 2)) (Gb Qd O O O) O (JLh (.agg (Slot.cs a.Slot)) (Gt Hx O O O) O ?_))))))))))
 obtain⟨b,e,h⟩:=Gj h
 refine JLh (BL b) (Gw O (Q6b y a.Slot b e) R3f ⟨O,O,O,O,G⟩) O (JLm (BL b) O (G8 (d (Gs (fin1 BL h)))))

def G69 (a:Gh) (b:Move):Option Bool:=
 bnd (Zy a (fun z0=>G3f z0 b)) fun c=>
 some (!c)
theorem J5d (d:Gh) (a:Move) (r:Bool) (h:G69 d a=some r):Pure Ek 77 [.dptr [.dptr (Gh.cs d)],Ec a] (·=BL r):=by
 unfold G69 at h
 refine H3 [.tmp 2] Tryz.func77 O O (Jr fun e=>(JLm (BL false) O (G8 (e (Jr fun f=>(JLh (Ed d) (Ge Jg O O O) O (JLh (.fn 78 [.dptr (Move.cs a)]) (R0 (cs:=[.dptr (Move.cs a)]) O O) O ?_)))))))
 obtain⟨c,g,h⟩:=Gj h
 refine JLh (BL c) (Gw O (H14.down d (fun z0=>G3f z0 a) 78 [.dptr (Move.cs a)] R40 O (fun z0 q hq=>J04 z0 a q hq) c g) J1a ⟨O,O,O,O,G⟩) O (JLh (BL (!c)) (R2 (b:=c) O O) O (JLm (BL (!c)) O (G8 (f (Gs (fin1 BL h))))))

def G68 (a:Gh) (b:Move):Option Bool:=
 Qr a.ship.Columns b.Slot.G1 fun c=>
 bnd (bif (!c.Deck) then G52 a b.Slot else some default) fun d=>
 some (c.Deck||(!d))
theorem J5c (a:Gh) (c:Move) (r:Bool) (h:G68 a c=some r):Pure Ek 80 [.dptr [.dptr (Gh.cs a)],Ec c] (·=BL r):=by
 unfold G68 at h
 refine H3 [.tmp 2] Tryz.func80 O O (Jr fun g=>(JLm (BL false) O (G8 (g (Js fun i=>?_)))))
 obtain⟨m,d,j,k,h⟩:=Rr h
 obtain⟨e,l,h⟩:=Gj h
 refine JC_d0 Ho (by kernel_rfl) (Dq (Ed a) (Ge Jg O O O) O (Dq (Ed a) (G61 O O) O (Dq (Ed a) (Gb Rb O O O) O (Dq (Ed a) (Gb Hh O O O) O (Dq (E3 a.ship.Columns) (Ge Hn O O O) O (Dq (.dptr ((Move.cs c).drop 2)) (Gb Qd O O O) O (Dq (.dptr ((Move.cs c).drop 2)) (Gb Hu O O O) O (Dq (I64 c.Slot.G1) (Ge Gd O O O) O (Dq (Eh d) (H0 (f:=G1.av) (xs:=a.ship.Columns) (y:=d) O O O Hk k j) O (Dq (.dptr ((G1.cs d).drop 2)) (Gb Z4 O O O) O (Dq (BL d.Deck) (Ge Re O O O) O (Dq (BL d.Deck) (G7 O O) O (Do (Ed a) [] O .scf G (fun hc=>Ge Jg O O O) O ?_)))))))))))))
 refine Do (.dptr ((Move.cs c).drop 2)) [] O .scf G (fun hc=>Gb Qd O O O) O (Do (.agg (Slot.cs c.Slot)) [16] O .scf ⟨Ua,G⟩ (fun hc=>Gt Hx O O O) O (Do (BL e) [15,17] O .scf ⟨Ua,Ua,G⟩ (fun hc=>Gw (args:=[.dptr (Gh.cs a),.agg (Slot.cs c.Slot)]) O (H8a a c.Slot e (H1 hc l)) Jee ⟨O,O,O,O,G⟩) O (Do (BL (!e)) [18] O .scf ⟨Ua,G⟩ (fun hc=>R2 (b:=e) O O) O (Dq (BL (d.Deck||(!e))) (Ya O O O O) O (Dq (BL (d.Deck||(!e))) (G9 O O) O (Dnil (i (Gs (fin1 BL h)))))))))

def Gb3 (m:Gh) (x:Move):Option (Int×Gh):=
 bnd (some (Gv.get m.on x.Slot (Box.mk 0 ByteArray.empty 0 false 0 0 0 0 false))) fun a=>
 bnd (H0d (decide (x.Ga=0)) 310) fun d=>
 bnd (H0d ((Gv.has m.on x.Slot)&&(decide (a.ID=x.Box))) 313) fun e=>
 bnd (Gf9 [(Ys (decide (x.Ga=0)),310),
  (Ys ((Gv.has m.on x.Slot)&&(decide (a.ID=x.Box))),313),
  (G69 m (Move.mk x.Kind x.Box x.Slot x.Ga),314),
  (G68 m (Move.mk x.Kind x.Box x.Slot x.Ga),315)]) fun b=>
 bif decide (b≠0) then
 (some (b,m))
 else
 (chk (m.lifts+1) fun c=>
  some (0,(Gh.mk m.ship (Gv.del m.on x.Slot) (Gv.put m.quay a.ID a) m.open_ c)))
abbrev Ev (m:Gh):List AV:=[E3 m.ship.Columns,E7 m.ship.Covers,I64 m.ship.Light.Kilos,I64 m.ship.Light.X,I64 m.ship.Light.Y,I64 m.ship.Light.Z,E4 m.ship.Rows,E5 m.ship.Frames,E6 m.ship.Tanks,I64 m.ship.G5.Tolerance,I64 m.ship.G5.Trim,I64 m.ship.G5.List_,I64 m.ship.G5.Stability,.mp 1159,.mp 1160,.mp 1161,I64 m.lifts]
theorem Jc2 (m:Gh) (x:Move) (r:Int×Gh) (h:Gb3 m x=some r):Jx Ek 43 [.ptr 1158 0,.agg (Move.cs x)] [(1158,.box 79 [E3 m.ship.Columns,E7 m.ship.Covers,I64 m.ship.Light.Kilos,I64 m.ship.Light.X,I64 m.ship.Light.Y,I64 m.ship.Light.Z,E4 m.ship.Rows,E5 m.ship.Frames,E6 m.ship.Tanks,I64 m.ship.G5.Tolerance,I64 m.ship.G5.Trim,I64 m.ship.G5.List_,I64 m.ship.G5.Stability,.mp 1159,.mp 1160,.mp 1161,I64 m.lifts]),(1159,TP 75 Slot.kv Box.av m.on),(1160,TP 76 Kn Box.av m.quay),(1161,TP 77 Kn I64 m.open_)] (fun av L'=>av=I64 r.1∧L'=[(1158,.box 79 [E3 r.2.ship.Columns,E7 r.2.ship.Covers,I64 r.2.ship.Light.Kilos,I64 r.2.ship.Light.X,I64 r.2.ship.Light.Y,I64 r.2.ship.Light.Z,E4 r.2.ship.Rows,E5 r.2.ship.Frames,E6 r.2.ship.Tanks,I64 r.2.ship.G5.Tolerance,I64 r.2.ship.G5.Trim,I64 r.2.ship.G5.List_,I64 r.2.ship.G5.Stability,.mp 1159,.mp 1160,.mp 1161,I64 r.2.lifts]),(1159,TP 75 Slot.kv Box.av r.2.on),(1160,TP 76 Kn Box.av r.2.quay),(1161,TP 77 Kn I64 r.2.open_)]):=by
 unfold Gb3 at h
 refine Ye [1158,1159,1160,1161] [.tmp 4] Tryz.func43 O O (H18 O) (Jr fun n=>(JLh (.ptr 1062 0) (Ju (cs:=[.ptr 1158 0]) 1062 O O O O O) O (JLh (.ptr 1063 0) (Ju (cs:=[U8 x.Kind,I64 x.Box,I64 x.Slot.G1,I64 x.Slot.Tier,U8 x.Slot.Half,I64 x.Ga]) 1063 O O O O O) O (JLm (I64 0) O (G8 (n ?_))))))
 refine Gu [(2,.ptr 1062 0),(3,Ec x)] [(1158,.box 79 (Ev m)),(1159,TP 75 Slot.kv Box.av m.on),(1160,TP 76 Kn Box.av m.quay),(1161,TP 77 Kn I64 m.open_),(1062,.box 40 [.ptr 1158 0])] 1063 rfl rfl rfl ⟨⟨_,rfl,.boxEq rfl rfl⟩,fmQ O,fmQ O,fmQ O,⟨_,rfl,.boxEq rfl rfl⟩,G⟩ rfl (by exact⟨.conv (.same rfl),.ptr,G⟩) ?_
 refine Js fun o=>?_
 refine Qw (l':=[(2,.ptr 1062 0),(3,Ec x)]) (L':=[(1158,.box 79 (Ev m)),(1159,TP 75 Slot.kv Box.av m.on),(1160,TP 76 Kn Box.av m.quay),(1161,TP 77 Kn I64 m.open_),(1062,.box 40 [.ptr 1158 0])]) ⟨(.sm O O),⟨fbQ O (.sm O O),fmQ O,fmQ O,fmQ O,fbQ O ⟨.same rfl,G⟩,G⟩,rfl⟩ ?_
 obtain⟨b,e,h⟩:=Gj h
 refine J4 [10,11] [0,0,0,0,0,0,0,0,0,0,0,0,2] [1,1,1,1,1,1,1,1,1,2,0,0,2] [[(1158,.box 79 (Ev m)),(1159,TP 75 Slot.kv Box.av m.on),(1160,TP 76 Kn Box.av m.quay),(1161,TP 77 Kn I64 m.open_),(1062,.box 40 [.ptr 1158 0])],((1064,.box 84 [.junk,.junk,.junk,.junk,.junk,.junk,.junk,.junk,.junk])::[(1158,.box 79 (Ev m)),(1159,TP 75 Slot.kv Box.av m.on),(1160,TP 76 Kn Box.av m.quay),(1161,TP 77 Kn I64 m.open_),(1062,.box 40 [.ptr 1158 0])]),((1064,.box 84 (Box.cs b))::((1064,.box 84 [.junk,.junk,.junk,.junk,.junk,.junk,.junk,.junk,.junk])::[(1158,.box 79 (Ev m)),(1159,TP 75 Slot.kv Box.av m.on),(1160,TP 76 Kn Box.av m.quay),(1161,TP 77 Kn I64 m.open_),(1062,.box 40 [.ptr 1158 0])]))] Ho (by kernel_rfl) rfl rfl ?_
 refine Gc (u:=.ptr 1158 0) O O ⟨Gi (J8 Jg O O O O) O,Gi (J8 Jg O O O O) O,G⟩ (Gc (u:=.ptr 1158 0) O O ⟨Gi (Ri O O) O,Gi (Ri O O) O,G⟩ (Gc (u:=.ptr 1158 13) O O ⟨Gi (Ht Y3 O O) O,Gi (Ht Y3 O O) O,G⟩ (Gc (u:=.mp 1159) O O ⟨Gi (J8 Y5 O O O O) O,Gi (J8 Y5 O O O O) O,G⟩ (Gc (u:=.dptr ((Move.cs x).drop 2)) O O ⟨Gi (Gb Qd O O O) O,Gi (Gb Qd O O O) O,G⟩ (Gc (u:=.agg (Slot.cs x.Slot)) O O ⟨Gi (Gt Hx O O O) O,Gi (Gt Hx O O O) O,G⟩ (Gc (u:=.tup [.agg (Box.cs b),BL (Gv.has m.on x.Slot)]) O O ⟨Gi (((M2 e) ▸ Hba (av:=Box.av) (m:=m.on) (a:=x.Slot) (Box.mk 0 ByteArray.empty 0 false 0 0 0 0 false) (.agg #[E0,.string ByteArray.empty,.int .u8 0,.bool false,E0,E0,E0,.int .u8 0,.bool false]) (fun _=>O) O (.own O) O Q70 G4e J39 O)) O,Gi (((M2 e) ▸ Hba (av:=Box.av) (m:=m.on) (a:=x.Slot) (Box.mk 0 ByteArray.empty 0 false 0 0 0 0 false) (.agg #[E0,.string ByteArray.empty,.int .u8 0,.bool false,E0,E0,E0,.int .u8 0,.bool false]) (fun _=>O) O (.own O) O Q70 G4e J39 O)) O,G⟩ (Gc (u:=.tup [.agg (Box.cs b),BL (Gv.has m.on x.Slot)]) O O ⟨Gi (G7 O O) O,Gi (G7 O O) O,G⟩ (Gc (u:=.agg (Box.cs b)) O O ⟨Gi (H4 O O O) O,Gi (H4 O O O) O,G⟩ (Gc (u:=BL (Gv.has m.on x.Slot)) O O ⟨Gi (H4 O O O) O,Gi (H4 O O O) O,Gi (H4 O O O) O,G⟩ (D_w (u:=.ptr 1064 0) O O O O (Gi (Jn 1064 9 Y1 O O) O) (Gf2 (u:=.junk) O O O O (Gi (He (u:=.agg (Box.cs b)) (ds:=(Box.cs b)) Rk O O O O O O O O) O) (Gc (u:=BL (Gv.has m.on x.Slot)) O O ⟨Gi (G9 O O) O,G⟩ (Qp ?_)))))))))))))
 refine o ?_
 refine fzQ [(2,.ptr 1062 0),(3,Ec x),(5,Eg b),(6,BL (Gv.has m.on x.Slot))] [(1158,.box 79 (Ev m)),(1159,TP 75 Slot.kv Box.av m.on),(1160,TP 76 Kn Box.av m.quay),(1161,TP 77 Kn I64 m.open_),(1062,.box 40 [.ptr 1158 0])] 1064 rfl rfl rfl ⟨⟨_,rfl,.boxEq rfl rfl⟩,fmQ O,fmQ O,fmQ O,⟨_,rfl,.boxEq rfl rfl⟩,G⟩ rfl ?_
 refine Jr fun p=>(JLh (.dptr [I64 x.Ga]) (Gb Rc O O O) O (JLh (I64 x.Ga) (Ge Gd O O O) O (JLh (BL (decide (x.Ga=0))) (Jk O O O) O ?_)))
 obtain⟨r5,s,h⟩:=Gj h
 refine JLh (.agg [.fn 119 [.dptr [BL (decide (x.Ga=0))]],I64 310]) (Gw O (Gef (decide (x.Ga=0)) 310 r5 s) Ge8 ⟨O,O,O,O,G⟩) O (JLm (BL (Gv.has m.on x.Slot)) O (JLm (BL (Gv.has m.on x.Slot)) O (JLo (Eg b) [] O .sct G (fun hc=>Gb G6e O O O) O (JLo (I64 b.ID) [24] O .sct ⟨Ua,G⟩ (fun hc=>Ge Gd O O O) O (JLo (.dptr ((Move.cs x).drop 1)) [] O .sct G (fun hc=>Gb Y4 O O O) O (JLo (I64 x.Box) [26] O .sct ⟨Ua,G⟩ (fun hc=>Ge Gd O O O) O (JLo (BL (decide (b.ID=x.Box))) [25,27] O .sct ⟨Ua,Ua,G⟩ (fun hc=>Jk O O O) O (JLh (BL ((Gv.has m.on x.Slot)&&(decide (b.ID=x.Box)))) (Jv O O O O) O ?_))))))))
 obtain⟨r6,t,h⟩:=Gj h
 refine JLh (.agg [.fn 119 [.dptr [BL ((Gv.has m.on x.Slot)&&(decide (b.ID=x.Box)))]],I64 313]) (Gw O (Gef ((Gv.has m.on x.Slot)&&(decide (b.ID=x.Box))) 313 r6 t) Ge8 ⟨O,O,O,O,G⟩) O (JLh (.fn 77 [.ptr 1062 0,Ec x]) (R0 (cs:=[.ptr 1062 0,Ec x]) O O) O (JLh (.agg [.fn 77 [.ptr 1062 0,Ec x],I64 314]) (Hj (cs:=[.fn 77 [.ptr 1062 0,Ec x],I64 314]) [(0,1),(1,1)] [.sc .nilFunc,I64 0] [.nilFunc,E0] Zt G1a (zzQ O) O O) O (JLh (.fn 80 [.ptr 1062 0,Ec x]) (R0 (cs:=[.ptr 1062 0,Ec x]) O O) O (JLh (.agg [.fn 80 [.ptr 1062 0,Ec x],I64 315]) (Hj (cs:=[.fn 80 [.ptr 1062 0,Ec x],I64 315]) [(0,1),(1,1)] [.sc .nilFunc,I64 0] [.nilFunc,E0] Zt G1a (zzQ O) O O) O (JLh (.ms 1065 0 4 4) (J8c 1065 (xs:=[.agg [.fn 119 [.dptr [BL (decide (x.Ga=0))]],I64 310],.agg [.fn 119 [.dptr [BL ((Gv.has m.on x.Slot)&&(decide (b.ID=x.Box)))]],I64 313],.agg [.fn 77 [.ptr 1062 0,Ec x],I64 314],.agg [.fn 80 [.ptr 1062 0,Ec x],I64 315]]) (cs:=[.fn 119 [.dptr [BL (decide (x.Ga=0))]],I64 310,.fn 119 [.dptr [BL ((Gv.has m.on x.Slot)&&(decide (b.ID=x.Box)))]],I64 313,.fn 77 [.ptr 1062 0,Ec x],I64 314,.fn 80 [.ptr 1062 0,Ec x],I64 315]) O ⟨O,O,O,O,G⟩ O Gcf H1e O O O O O) O ?_)))))
 obtain⟨c,w,h⟩:=Gj h
 refine JLg (I64 c) (G8e O (Q34.down [J6.mk 119 [.dptr [BL (decide (x.Ga=0))]] (Ys (decide (x.Ga=0))) 310 Gc4 O (fun q hq=>G97 (decide (x.Ga=0)) q hq),
 J6.mk 119 [.dptr [BL ((Gv.has m.on x.Slot)&&(decide (b.ID=x.Box)))]] (Ys ((Gv.has m.on x.Slot)&&(decide (b.ID=x.Box)))) 313 Gc4 rfl (fun q hq=>G97 ((Gv.has m.on x.Slot)&&(decide (b.ID=x.Box))) q hq),
 J6.mk 77 [.dptr [.dptr (Gh.cs m)],Ec x] (G69 m (Move.mk x.Kind x.Box x.Slot x.Ga)) 314 R41 rfl (fun q hq=>J5d m (Move.mk x.Kind x.Box x.Slot x.Ga) q hq),
 J6.mk 80 [.dptr [.dptr (Gh.cs m)],Ec x] (G68 m (Move.mk x.Kind x.Box x.Slot x.Ga)) 315 R3e rfl (fun q hq=>J5c m (Move.mk x.Kind x.Box x.Slot x.Ga) q hq)] c w) J19 ⟨.msL rfl rfl rfl ⟨.data O O,.data O O,.data O O,.data O O,.fnL ⟨.ptrL rfl ⟨.ptrL rfl (dnQ 13 O O ⟨.mp rfl,.mp rfl,.mp rfl,.data O O,trivial⟩),trivial⟩,.data O O,trivial⟩,.data O O,.fnL ⟨.ptrL rfl ⟨.ptrL rfl (dnQ 13 O O ⟨.mp rfl,.mp rfl,.mp rfl,.data O O,trivial⟩),trivial⟩,.data O O,trivial⟩,.data O O,trivial⟩,trivial⟩ rfl) ?_ rfl rfl rfl
 refine JLm (I64 c) O (G8 (p (Js fun y=>Jr fun z=>(JLm (I64 c) O (JLh (BL (decide (c≠0))) (G2c O O O) O (G8 (z (JCc O h (fun h hb=>?_) (fun h hb=>?_)))))))))
 ·
  refine Jr fun f=>(JLm (I64 c) O (JLm (I64 c) O (G8 (f (Gs ?_)))))
  obtain rfl:=M2 h
  exact⟨[I64 c],[(1158,.box 79 (Ev m)),(1159,TP 75 Slot.kv Box.av m.on),(1160,TP 76 Kn Box.av m.quay),(1161,TP 77 Kn I64 m.open_)],⟨fbQ O (.sm O O),fmQ O,fmQ O,fmQ O,G⟩,rfl,⟨⟨_,rfl,.conv (.same rfl)⟩,G⟩,rfl,rfl⟩
 ·
  refine Gn (y (Js fun g=>?_))
  refine Qw (l':=[(2,.ptr 1062 0),(3,Ec x),(5,Eg b)]) (L':=[(1158,.box 79 (Ev m)),(1159,TP 75 Slot.kv Box.av m.on),(1160,TP 76 Kn Box.av m.quay),(1161,TP 77 Kn I64 m.open_),(1062,.box 40 [.ptr 1158 0]),(1065,.box 123 [.fn 119 [.dptr [BL (decide (x.Ga=0))]],I64 310,.fn 119 [.dptr [BL ((Gv.has m.on x.Slot)&&(decide (b.ID=x.Box)))]],I64 313,.fn 77 [.ptr 1062 0,Ec x],I64 314,.fn 80 [.ptr 1062 0,Ec x],I64 315])]) ⟨(.sm O O),⟨fbQ O (.sm O O),fmQ O,fmQ O,fmQ O,fbQ O ⟨.same rfl,G⟩,fbQ O (.sm O O),G⟩,rfl⟩ ?_
  refine J4 [6] [0,0,0,0,0,0,0] [0,0,0,0,0,0,0] [[(1158,.box 79 (Ev m)),(1159,TP 75 Slot.kv Box.av m.on),(1160,TP 76 Kn Box.av m.quay),(1161,TP 77 Kn I64 m.open_),(1062,.box 40 [.ptr 1158 0]),(1065,.box 123 [.fn 119 [.dptr [BL (decide (x.Ga=0))]],I64 310,.fn 119 [.dptr [BL ((Gv.has m.on x.Slot)&&(decide (b.ID=x.Box)))]],I64 313,.fn 77 [.ptr 1062 0,Ec x],I64 314,.fn 80 [.ptr 1062 0,Ec x],I64 315])],((1159,TP 75 Slot.kv Box.av (Gv.del m.on x.Slot))::[(1158,.box 79 (Ev m)),(1159,TP 75 Slot.kv Box.av m.on),(1160,TP 76 Kn Box.av m.quay),(1161,TP 77 Kn I64 m.open_),(1062,.box 40 [.ptr 1158 0]),(1065,.box 123 [.fn 119 [.dptr [BL (decide (x.Ga=0))]],I64 310,.fn 119 [.dptr [BL ((Gv.has m.on x.Slot)&&(decide (b.ID=x.Box)))]],I64 313,.fn 77 [.ptr 1062 0,Ec x],I64 314,.fn 80 [.ptr 1062 0,Ec x],I64 315])])] Ho (by kernel_rfl) rfl rfl ?_
  refine Gc (u:=.ptr 1158 0) O O ⟨Gi (J8 Jg O O O O) O,G⟩ (Gc (u:=.ptr 1158 0) O O ⟨Gi (Ri O O) O,G⟩ (Gc (u:=.ptr 1158 13) O O ⟨Gi (Ht Y3 O O) O,G⟩ (Gc (u:=.mp 1159) O O ⟨Gi (J8 Y5 O O O O) O,G⟩ (Gc (u:=.dptr ((Move.cs x).drop 2)) O O ⟨Gi (Gb Qd O O O) O,G⟩ (Gc (u:=.agg (Slot.cs x.Slot)) O O ⟨Gi (Gt Hx O O O) O,G⟩ (Gf2 (u:=.tup []) O O O O (Gi (Hb9 (m:=m.on) (a:=x.Slot) (fun _=>O) O O O O Q70 G4e) O) (Qp (g (Js fun i=>?_)))))))))
  refine Qw (l':=[(2,.ptr 1062 0),(5,Eg b)]) (L':=[(1158,.box 79 (Ev m)),(1159,TP 75 Slot.kv Box.av (Gv.del m.on x.Slot)),(1160,TP 76 Kn Box.av m.quay),(1161,TP 77 Kn I64 m.open_),(1062,.box 40 [.ptr 1158 0]),(1065,.box 123 [.fn 119 [.dptr [BL (decide (x.Ga=0))]],I64 310,.fn 119 [.dptr [BL ((Gv.has m.on x.Slot)&&(decide (b.ID=x.Box)))]],I64 313,.fn 77 [.ptr 1062 0,Ec x],I64 314,.fn 80 [.ptr 1062 0,Ec x],I64 315])]) ⟨(.sm O O),⟨fbQ O (.sm O O),fmQ O,fmQ O,fmQ O,fbQ O ⟨.same rfl,G⟩,fbQ O (.sm O O),G⟩,rfl⟩ ?_
  refine J4 [7] [0,0,0,0,0,0,0,0] [0,0,0,0,0,0,0,0] [[(1158,.box 79 (Ev m)),(1159,TP 75 Slot.kv Box.av (Gv.del m.on x.Slot)),(1160,TP 76 Kn Box.av m.quay),(1161,TP 77 Kn I64 m.open_),(1062,.box 40 [.ptr 1158 0]),(1065,.box 123 [.fn 119 [.dptr [BL (decide (x.Ga=0))]],I64 310,.fn 119 [.dptr [BL ((Gv.has m.on x.Slot)&&(decide (b.ID=x.Box)))]],I64 313,.fn 77 [.ptr 1062 0,Ec x],I64 314,.fn 80 [.ptr 1062 0,Ec x],I64 315])],((1160,TP 76 Kn Box.av (Gv.put m.quay b.ID b))::[(1158,.box 79 (Ev m)),(1159,TP 75 Slot.kv Box.av (Gv.del m.on x.Slot)),(1160,TP 76 Kn Box.av m.quay),(1161,TP 77 Kn I64 m.open_),(1062,.box 40 [.ptr 1158 0]),(1065,.box 123 [.fn 119 [.dptr [BL (decide (x.Ga=0))]],I64 310,.fn 119 [.dptr [BL ((Gv.has m.on x.Slot)&&(decide (b.ID=x.Box)))]],I64 313,.fn 77 [.ptr 1062 0,Ec x],I64 314,.fn 80 [.ptr 1062 0,Ec x],I64 315])])] Ho (by kernel_rfl) rfl rfl ?_
  refine Gc (u:=.ptr 1158 0) O O ⟨Gi (J8 Jg O O O O) O,G⟩ (Gc (u:=.ptr 1158 0) O O ⟨Gi (Ri O O) O,G⟩ (Gc (u:=.ptr 1158 14) O O ⟨Gi (Ht G1b O O) O,G⟩ (Gc (u:=.mp 1160) O O ⟨Gi (J8 G14 O O O O) O,G⟩ (Gc (u:=Eg b) O O ⟨Gi (Gb G6e O O O) O,G⟩ (Gc (u:=I64 b.ID) O O ⟨Gi (Ge Gd O O O) O,G⟩ (Gc (u:=.agg (Box.cs b)) O O ⟨Gi (Gt Yf O O O) O,G⟩ (Gf2 (u:=.junk) O O O O (Gi (G62 (m:=m.quay) (a:=b.ID) (v:=b) (fun _=>O) O O O O O O Jdc Ge6) O) (Qp (i ?_)))))))))
  refine Jr fun j=>(JLh (.ptr 1158 0) (J8 Jg O O O O) O (JLh (.ptr 1158 0) (Ri O O) O (JLh (.ptr 1158 16) (Ht Ga5 O O) O (JLh (I64 m.lifts) (J8 Gd O O O O) O ?_))))
  obtain⟨d,k,h⟩:=Zw h
  refine JLh (I64 d) (Jo k O O O) O (JLh (.ptr 1158 0) (Ri O O) O (JLh (.ptr 1158 16) (Ht Ga5 O O) O (J9 (u:=.junk) (He (u:=I64 d) (ds:=[E3 m.ship.Columns,E7 m.ship.Covers,I64 m.ship.Light.Kilos,I64 m.ship.Light.X,I64 m.ship.Light.Y,I64 m.ship.Light.Z,E4 m.ship.Rows,E5 m.ship.Frames,E6 m.ship.Tanks,I64 m.ship.G5.Tolerance,I64 m.ship.G5.Trim,I64 m.ship.G5.List_,I64 m.ship.G5.Stability,.mp 1159,.mp 1160,.mp 1161,I64 d]) H2b O O O O O O O O) (G8 (j (Jr fun l=>(JLm (I64 0) O (G8 (l (Gs ?_))))))))))
  obtain rfl:=M2 h
  exact⟨[I64 0],[(1158,.box 79 [E3 m.ship.Columns,E7 m.ship.Covers,I64 m.ship.Light.Kilos,I64 m.ship.Light.X,I64 m.ship.Light.Y,I64 m.ship.Light.Z,E4 m.ship.Rows,E5 m.ship.Frames,E6 m.ship.Tanks,I64 m.ship.G5.Tolerance,I64 m.ship.G5.Trim,I64 m.ship.G5.List_,I64 m.ship.G5.Stability,.mp 1159,.mp 1160,.mp 1161,I64 d]),(1159,TP 75 Slot.kv Box.av (Gv.del m.on x.Slot)),(1160,TP 76 Kn Box.av (Gv.put m.quay b.ID b)),(1161,TP 77 Kn I64 m.open_)],⟨fbQ O (.sm O O),fmQ O,fmQ O,fmQ O,G⟩,rfl,⟨⟨_,rfl,.conv (.same rfl)⟩,G⟩,rfl,rfl⟩

def G8b (a:Gh) (b:Move) (c:Box):Option Bool:=
 bnd (G5d a.ship b.Slot c.Size) fun d=>
 some d
theorem J84 (a:Gh) (b:Move) (c:Box) (r:Bool) (h:G8b a b c=some r):Pure Ek 82 [.dptr [.dptr (Gh.cs a)],Ec b,Eg c] (·=BL r):=by
 unfold G8b at h
 refine H3 [.tmp 3] Tryz.func82 O O (Jr fun e=>(JLm (BL false) O (G8 (e (Js fun f=>?_)))))
 obtain⟨d,g,h⟩:=Gj h
 refine JC_d0 Ho (by kernel_rfl) (Dq (Ed a) (Ge Jg O O O) O (Dq (Ed a) (G61 O O) O (Dq (Ed a) (Gb Rb O O O) O (Dq (.agg (G6.cs a.ship)) (Gt Jm O O O) O (Dq (.dptr ((Move.cs b).drop 2)) (Gb Qd O O O) O (Dq (.agg (Slot.cs b.Slot)) (Gt Hx O O O) O (Dq (.dptr ((Box.cs c).drop 2)) (Gb Ym O O O) O (Dq (U8 c.Size) (Ge Hm O O O) O (Dq (BL d) (Gw (args:=[.agg (G6.cs a.ship),.agg (Slot.cs b.Slot),U8 c.Size]) O (He5 a.ship b.Slot c.Size d g) Jf7 ⟨O,O,O,O,O,O,G⟩) O (Dq (BL d) (G9 O O) O (Dnil (f (Gs (fin1 BL h))))))))))))))

def G8a (a:Gh) (b:Move):Option Bool:=
 bnd (G52 a b.Slot) fun c=>
 some (!c)
theorem J83 (d:Gh) (a:Move) (r:Bool) (h:G8a d a=some r):Pure Ek 83 [.dptr [.dptr (Gh.cs d)],Ec a] (·=BL r):=by
 unfold G8a at h
 refine H3 [.tmp 2] Tryz.func83 O O (Jr fun e=>(JLm (BL false) O (G8 (e (Jr fun f=>(JLh (Ed d) (Ge Jg O O O) O (JLh (.dptr ((Move.cs a).drop 2)) (Gb Qd O O O) O (JLh (.agg (Slot.cs a.Slot)) (Gt Hx O O O) O ?_))))))))
 obtain⟨c,g,h⟩:=Gj h
 refine JLh (BL c) (Gw O (H8a d a.Slot c g) Jee ⟨O,O,O,O,G⟩) O (JLh (BL (!c)) (R2 (b:=c) O O) O (JLm (BL (!c)) O (G8 (f (Gs (fin1 BL h))))))

def G53 (y:Slot) (a:Move):Option Bool:=
 bnd (Gcc y a.Slot) fun b=>
 some b
theorem J2c (y:Slot) (a:Move) (r:Bool) (h:G53 y a=some r):Pure Ek 85 [.agg [I64 y.G1,I64 y.Tier,U8 y.Half],Ec a] (·=BL r):=by
 unfold G53 at h
 refine H3 [.tmp 3] Tryz.func85 O O (Jr fun c=>(JLh (.ptr 1117 0) (Ju (cs:=[I64 y.G1,I64 y.Tier,U8 y.Half]) 1117 O O O O O) O (JLm (BL false) O (G8 (c (Gu [(1,Ec a),(2,.dptr [I64 y.G1,I64 y.Tier,U8 y.Half])] [] 1117 rfl rfl rfl G rfl (by exact⟨.conv (.same rfl),.ptr,G⟩) (Jr fun d=>(JLh (.agg [I64 y.G1,I64 y.Tier,U8 y.Half]) (Gt Hx O O O) O (JLh (.dptr ((Move.cs a).drop 2)) (Gb Qd O O O) O (JLh (.agg (Slot.cs a.Slot)) (Gt Hx O O O) O ?_))))))))))
 obtain⟨b,e,h⟩:=Gj h
 refine JLh (BL b) (Gw O (J12 y a.Slot b e) Jf5 ⟨O,O,O,O,G⟩) O (JLm (BL b) O (G8 (d (Gs (fin1 BL h)))))

def G89 (a:Gh) (b:Move):Option Bool:=
 bnd (Zy a (fun z0=>G53 z0 b)) fun c=>
 some (!c)
theorem J82 (d:Gh) (a:Move) (r:Bool) (h:G89 d a=some r):Pure Ek 84 [.dptr [.dptr (Gh.cs d)],Ec a] (·=BL r):=by
 unfold G89 at h
 refine H3 [.tmp 2] Tryz.func84 O O (Jr fun e=>(JLm (BL false) O (G8 (e (Jr fun f=>(JLh (Ed d) (Ge Jg O O O) O (JLh (.fn 85 [.dptr (Move.cs a)]) (R0 (cs:=[.dptr (Move.cs a)]) O O) O ?_)))))))
 obtain⟨c,g,h⟩:=Gj h
 refine JLh (BL c) (Gw O (H14.down d (fun z0=>G53 z0 a) 85 [.dptr (Move.cs a)] R3a O (fun z0 q hq=>J2c z0 a q hq) c g) J1a ⟨O,O,O,O,G⟩) O (JLh (BL (!c)) (R2 (b:=c) O O) O (JLm (BL (!c)) O (G8 (f (Gs (fin1 BL h))))))

def G88 (b:Move) (a:Gh):Option Bool:=
 bnd (G0f a.on) fun e=>
 bnd (Zx (Gv.keys a.on)) fun c=>
 bnd (H12 b.Slot c) fun d=>
 some d
theorem J81 (b:Move) (a:Gh) (r:Bool) (h:G88 b a=some r):Pure Ek 86 [.dptr (Move.cs b),.dptr [.dptr (Gh.cs a)]] (·=BL r):=by
 unfold G88 at h
 refine H3 [.tmp 2] Tryz.func86 O O (Jr fun e=>(JLm (BL false) O (G8 (e (Js fun f=>?_)))))
 obtain⟨k,g,h⟩:=Gj h
 obtain⟨c,i,h⟩:=Gj h
 obtain⟨d,j,h⟩:=Gj h
 refine JC_d0 Ho (by kernel_rfl) (Dq (.dptr ((Move.cs b).drop 2)) (Gb Qd O O O) O (Dq (.agg (Slot.cs b.Slot)) (Gt Hx O O O) O (Dq (Ed a) (Ge Jg O O O) O (Dq (Ed a) (G61 O O) O (Dq (.dptr ((Gh.cs a).drop 13)) (Gb Y3 O O O) O (Dq (DM Slot.kv Box.av a.on) (Ge Y5 O O O) O (Dq (.fn 121 [.dptr [DM Slot.kv Box.av a.on]]) (Gw (args:=[DM Slot.kv Box.av a.on]) O (Gf0 a.on k g) R37 ⟨O,O,G⟩) O (Dq (BG 3 Slot.av c) (Gw (args:=[.fn 121 [.dptr [DM Slot.kv Box.av a.on]]]) O (H42.down (Gv.keys a.on) 121 [.dptr [DM Slot.kv Box.av a.on]] Qe5 O (Gdb a.on) c i) R38 ⟨O,O,G⟩) O (Dq (BL d) (Gw (args:=[.agg (Slot.cs b.Slot),BG 3 Slot.av c]) O (J57.down b.Slot c d j) Jf6 ⟨O,O,O,O,G⟩) O (Dq (BL d) (G9 O O) O (Dnil ?_)))))))))))
 refine f (Gs (fin1 BL h))

def G87 (b:Gh) (c:Move) (d:Box):Option Bool:=
 Qr b.ship.Columns c.Slot.G1 fun a=>
 bnd (bif (!(decide (a.Height≤0))) then G26 b c.Slot d 1 else some default) fun e=>
 bnd (bif (!(decide (a.Height≤0))) then G26 b c.Slot d 2 else some default) fun f=>
 some ((decide (a.Height≤0))||(decide ((max e f)≤a.Height)))
theorem J80 (a:Gh) (c:Move) (d:Box) (r:Bool) (h:G87 a c d=some r):Pure Ek 89 [.dptr [.dptr (Gh.cs a)],Ec c,Eg d] (·=BL r):=by
 unfold G87 at h
 refine H3 [.tmp 3] Tryz.func89 O O (Jr fun i=>(JLm (BL false) O (G8 (i (Js fun j=>?_)))))
 obtain⟨p,b,k,l,h⟩:=Rr h
 refine JC_d0 Ho (by kernel_rfl) (Dq (Ed a) (Ge Jg O O O) O (Dq (Ed a) (G61 O O) O (Dq (Ed a) (Gb Rb O O O) O (Dq (Ed a) (Gb Hh O O O) O (Dq (E3 a.ship.Columns) (Ge Hn O O O) O (Dq (.dptr ((Move.cs c).drop 2)) (Gb Qd O O O) O (Dq (.dptr ((Move.cs c).drop 2)) (Gb Hu O O O) O (Dq (I64 c.Slot.G1) (Ge Gd O O O) O (Dq (Eh b) (H0 (f:=G1.av) (xs:=a.ship.Columns) (y:=b) O O O Hk l k) O (Dq (.dptr ((G1.cs b).drop 4)) (Gb G44 O O O) O (Dq (I64 b.Height) (Ge Gd O O O) O (Dq (I64 b.Height) (G9 O O) O (Dnil (j (Js fun m=>?_)))))))))))))))
 obtain⟨e,n,h⟩:=Gj h
 obtain⟨g,o,h⟩:=Gj h
 refine JC_d0 Ho (by kernel_rfl) (Dq (I64 b.Height) (G7 O O) O (Dq (BL (decide (b.Height≤0))) (H61 O O O) O (Dq (BL (decide (b.Height≤0))) (G7 O O) O (Do (Ed a) [] O .scf G (fun hc=>Ge Jg O O O) O (Do (.dptr ((Move.cs c).drop 2)) [] O .scf G (fun hc=>Gb Qd O O O) O (Do (.agg (Slot.cs c.Slot)) [20] O .scf ⟨Ua,G⟩ (fun hc=>Gt Hx O O O) O (Do (.agg (Box.cs d)) [] O .scf G (fun hc=>Gt Yf O O O) O (Do (I64 e) [19,21,22] O .scf ⟨Ua,Ua,Ua,G⟩ (fun hc=>Gw (args:=[.dptr (Gh.cs a),.agg (Slot.cs c.Slot),.agg (Box.cs d),U8 1]) O (H82.down a c.Slot d 1 e (H1 hc n)) Jed ⟨O,O,O,O,O,O,O,O,G⟩) O (Do (Ed a) [] O .scf G (fun hc=>Ge Jg O O O) O (Do (.dptr ((Move.cs c).drop 2)) [] O .scf G (fun hc=>Gb Qd O O O) O (Do (.agg (Slot.cs c.Slot)) [25] O .scf ⟨Ua,G⟩ (fun hc=>Gt Hx O O O) O (Do (.agg (Box.cs d)) [] O .scf G (fun hc=>Gt Yf O O O) O (Do (I64 g) [24,26,27] O .scf ⟨Ua,Ua,Ua,G⟩ (fun hc=>Gw (args:=[.dptr (Gh.cs a),.agg (Slot.cs c.Slot),.agg (Box.cs d),U8 2]) O (H82.down a c.Slot d 2 g (H1 hc o)) Jed ⟨O,O,O,O,O,O,O,O,G⟩) O ?_)))))))))))))
 refine Do (I64 (max e g)) [23,28] O .scf ⟨Ua,Ua,G⟩ (fun hc=>Yfc O O O) O (Do (I64 b.Height) [] O .scf G (fun hc=>G7 O O) O (Do (BL (decide ((max e g)≤b.Height))) [29,30] O .scf ⟨Ua,Ua,G⟩ (fun hc=>H61 O O O) O (Dq (BL ((decide (b.Height≤0))||(decide ((max e g)≤b.Height)))) (Ya O O O O) O (Dq (BL ((decide (b.Height≤0))||(decide ((max e g)≤b.Height)))) (G9 O O) O (Dnil (m (Gs (fin1 BL h))))))))

def Gd9 (m:Gh) (x:Move):Option (Int×Gh):=
 bnd (some (Gv.get m.quay x.Box (Box.mk 0 ByteArray.empty 0 false 0 0 0 0 false))) fun a=>
 bnd (H0d (decide (x.Ga=0)) 310) fun d=>
 bnd (H0d (Gv.has m.quay x.Box) 313) fun e=>
 bnd (Gf9 [(Ys (decide (x.Ga=0)),310),
  (Ys (Gv.has m.quay x.Box),313),
  (G8b m (Move.mk x.Kind x.Box x.Slot x.Ga) a,316),
  (G8a m (Move.mk x.Kind x.Box x.Slot x.Ga),315),
  (G89 m (Move.mk x.Kind x.Box x.Slot x.Ga),317),
  (G88 (Move.mk x.Kind x.Box x.Slot x.Ga) m,318),
  (G87 m (Move.mk x.Kind x.Box x.Slot x.Ga) a,319)]) fun b=>
 bif decide (b≠0) then
 (some (b,m))
 else
 (chk (m.lifts+1) fun c=>
  some (0,(Gh.mk m.ship (Gv.put m.on x.Slot a) (Gv.del m.quay x.Box) m.open_ c)))
abbrev Ew (m:Gh):List AV:=[E3 m.ship.Columns,E7 m.ship.Covers,I64 m.ship.Light.Kilos,I64 m.ship.Light.X,I64 m.ship.Light.Y,I64 m.ship.Light.Z,E4 m.ship.Rows,E5 m.ship.Frames,E6 m.ship.Tanks,I64 m.ship.G5.Tolerance,I64 m.ship.G5.Trim,I64 m.ship.G5.List_,I64 m.ship.G5.Stability,.mp 1159,.mp 1160,.mp 1161,I64 m.lifts]
theorem Q49 (m:Gh) (x:Move) (r:Int×Gh) (h:Gd9 m x=some r):Jx Ek 44 [.ptr 1158 0,.agg (Move.cs x)] [(1158,.box 79 [E3 m.ship.Columns,E7 m.ship.Covers,I64 m.ship.Light.Kilos,I64 m.ship.Light.X,I64 m.ship.Light.Y,I64 m.ship.Light.Z,E4 m.ship.Rows,E5 m.ship.Frames,E6 m.ship.Tanks,I64 m.ship.G5.Tolerance,I64 m.ship.G5.Trim,I64 m.ship.G5.List_,I64 m.ship.G5.Stability,.mp 1159,.mp 1160,.mp 1161,I64 m.lifts]),(1159,TP 75 Slot.kv Box.av m.on),(1160,TP 76 Kn Box.av m.quay),(1161,TP 77 Kn I64 m.open_)] (fun av L'=>av=I64 r.1∧L'=[(1158,.box 79 [E3 r.2.ship.Columns,E7 r.2.ship.Covers,I64 r.2.ship.Light.Kilos,I64 r.2.ship.Light.X,I64 r.2.ship.Light.Y,I64 r.2.ship.Light.Z,E4 r.2.ship.Rows,E5 r.2.ship.Frames,E6 r.2.ship.Tanks,I64 r.2.ship.G5.Tolerance,I64 r.2.ship.G5.Trim,I64 r.2.ship.G5.List_,I64 r.2.ship.G5.Stability,.mp 1159,.mp 1160,.mp 1161,I64 r.2.lifts]),(1159,TP 75 Slot.kv Box.av r.2.on),(1160,TP 76 Kn Box.av r.2.quay),(1161,TP 77 Kn I64 r.2.open_)]):=by
 unfold Gd9 at h
 refine Ye [1158,1159,1160,1161] [.tmp 4] Tryz.func44 O O (H18 O) (Jr fun n=>(JLh (.ptr 1066 0) (Ju (cs:=[.ptr 1158 0]) 1066 O O O O O) O (JLh (.ptr 1067 0) (Ju (cs:=[U8 x.Kind,I64 x.Box,I64 x.Slot.G1,I64 x.Slot.Tier,U8 x.Slot.Half,I64 x.Ga]) 1067 O O O O O) O (JLm (I64 0) O (G8 (n ?_))))))
 refine Gu [(2,.ptr 1066 0),(3,Ec x)] [(1158,.box 79 (Ew m)),(1159,TP 75 Slot.kv Box.av m.on),(1160,TP 76 Kn Box.av m.quay),(1161,TP 77 Kn I64 m.open_),(1066,.box 40 [.ptr 1158 0])] 1067 rfl rfl rfl ⟨⟨_,rfl,.boxEq rfl rfl⟩,fmQ O,fmQ O,fmQ O,⟨_,rfl,.boxEq rfl rfl⟩,G⟩ rfl (by exact⟨.conv (.same rfl),.ptr,G⟩) ?_
 refine Js fun o=>?_
 refine Qw (l':=[(2,.ptr 1066 0),(3,Ec x)]) (L':=[(1158,.box 79 (Ew m)),(1159,TP 75 Slot.kv Box.av m.on),(1160,TP 76 Kn Box.av m.quay),(1161,TP 77 Kn I64 m.open_),(1066,.box 40 [.ptr 1158 0])]) ⟨(.sm O O),⟨fbQ O (.sm O O),fmQ O,fmQ O,fmQ O,fbQ O ⟨.same rfl,G⟩,G⟩,rfl⟩ ?_
 obtain⟨b,e,h⟩:=Gj h
 refine J4 [10,11] [0,0,0,0,0,0,0,0,0,0,0,0,2] [1,1,1,1,1,1,1,1,1,2,0,0,2] [[(1158,.box 79 (Ew m)),(1159,TP 75 Slot.kv Box.av m.on),(1160,TP 76 Kn Box.av m.quay),(1161,TP 77 Kn I64 m.open_),(1066,.box 40 [.ptr 1158 0])],((1068,.box 84 [.junk,.junk,.junk,.junk,.junk,.junk,.junk,.junk,.junk])::[(1158,.box 79 (Ew m)),(1159,TP 75 Slot.kv Box.av m.on),(1160,TP 76 Kn Box.av m.quay),(1161,TP 77 Kn I64 m.open_),(1066,.box 40 [.ptr 1158 0])]),((1068,.box 84 (Box.cs b))::((1068,.box 84 [.junk,.junk,.junk,.junk,.junk,.junk,.junk,.junk,.junk])::[(1158,.box 79 (Ew m)),(1159,TP 75 Slot.kv Box.av m.on),(1160,TP 76 Kn Box.av m.quay),(1161,TP 77 Kn I64 m.open_),(1066,.box 40 [.ptr 1158 0])]))] Ho (by kernel_rfl) rfl rfl ?_
 refine Gc (u:=.ptr 1158 0) O O ⟨Gi (J8 Jg O O O O) O,Gi (J8 Jg O O O O) O,G⟩ (Gc (u:=.ptr 1158 0) O O ⟨Gi (Ri O O) O,Gi (Ri O O) O,G⟩ (Gc (u:=.ptr 1158 14) O O ⟨Gi (Ht G1b O O) O,Gi (Ht G1b O O) O,G⟩ (Gc (u:=.mp 1160) O O ⟨Gi (J8 G14 O O O O) O,Gi (J8 G14 O O O O) O,G⟩ (Gc (u:=.dptr ((Move.cs x).drop 1)) O O ⟨Gi (Gb Y4 O O O) O,Gi (Gb Y4 O O O) O,G⟩ (Gc (u:=I64 x.Box) O O ⟨Gi (Ge Gd O O O) O,Gi (Ge Gd O O O) O,G⟩ (Gc (u:=.tup [.agg (Box.cs b),BL (Gv.has m.quay x.Box)]) O O ⟨Gi (((M2 e) ▸ Hba (av:=Box.av) (m:=m.quay) (a:=x.Box) (Box.mk 0 ByteArray.empty 0 false 0 0 0 0 false) (.agg #[E0,.string ByteArray.empty,.int .u8 0,.bool false,E0,E0,E0,.int .u8 0,.bool false]) (fun _=>O) O (.own O) O Jdc Ge6 J39 O)) O,Gi (((M2 e) ▸ Hba (av:=Box.av) (m:=m.quay) (a:=x.Box) (Box.mk 0 ByteArray.empty 0 false 0 0 0 0 false) (.agg #[E0,.string ByteArray.empty,.int .u8 0,.bool false,E0,E0,E0,.int .u8 0,.bool false]) (fun _=>O) O (.own O) O Jdc Ge6 J39 O)) O,G⟩ (Gc (u:=.tup [.agg (Box.cs b),BL (Gv.has m.quay x.Box)]) O O ⟨Gi (G7 O O) O,Gi (G7 O O) O,G⟩ (Gc (u:=.agg (Box.cs b)) O O ⟨Gi (H4 O O O) O,Gi (H4 O O O) O,G⟩ (Gc (u:=BL (Gv.has m.quay x.Box)) O O ⟨Gi (H4 O O O) O,Gi (H4 O O O) O,Gi (H4 O O O) O,G⟩ (D_w (u:=.ptr 1068 0) O O O O (Gi (Jn 1068 9 Y1 O O) O) (Gf2 (u:=.junk) O O O O (Gi (He (u:=.agg (Box.cs b)) (ds:=(Box.cs b)) Rk O O O O O O O O) O) (Gc (u:=BL (Gv.has m.quay x.Box)) O O ⟨Gi (G9 O O) O,G⟩ (Qp ?_)))))))))))))
 refine o ?_
 refine fzQ [(2,.ptr 1066 0),(3,Ec x),(5,Eg b),(6,BL (Gv.has m.quay x.Box))] [(1158,.box 79 (Ew m)),(1159,TP 75 Slot.kv Box.av m.on),(1160,TP 76 Kn Box.av m.quay),(1161,TP 77 Kn I64 m.open_),(1066,.box 40 [.ptr 1158 0])] 1068 rfl rfl rfl ⟨⟨_,rfl,.boxEq rfl rfl⟩,fmQ O,fmQ O,fmQ O,⟨_,rfl,.boxEq rfl rfl⟩,G⟩ rfl ?_
 refine Jr fun p=>(JLh (.dptr [I64 x.Ga]) (Gb Rc O O O) O (JLh (I64 x.Ga) (Ge Gd O O O) O (JLh (BL (decide (x.Ga=0))) (Jk O O O) O ?_)))
 obtain⟨r5,s,h⟩:=Gj h
 refine JLh (.agg [.fn 119 [.dptr [BL (decide (x.Ga=0))]],I64 310]) (Gw O (Gef (decide (x.Ga=0)) 310 r5 s) Ge8 ⟨O,O,O,O,G⟩) O (JLm (BL (Gv.has m.quay x.Box)) O ?_)
 obtain⟨r6,t,h⟩:=Gj h
 refine JLh (.agg [.fn 119 [.dptr [BL (Gv.has m.quay x.Box)]],I64 313]) (Gw O (Gef (Gv.has m.quay x.Box) 313 r6 t) Ge8 ⟨O,O,O,O,G⟩) O (JLh (.fn 82 [.ptr 1066 0,Ec x,Eg b]) (R0 (cs:=[.ptr 1066 0,Ec x,Eg b]) O O) O (JLh (.agg [.fn 82 [.ptr 1066 0,Ec x,Eg b],I64 316]) (Hj (cs:=[.fn 82 [.ptr 1066 0,Ec x,Eg b],I64 316]) [(0,1),(1,1)] [.sc .nilFunc,I64 0] [.nilFunc,E0] Zt G1a (zzQ O) O O) O (JLh (.fn 83 [.ptr 1066 0,Ec x]) (R0 (cs:=[.ptr 1066 0,Ec x]) O O) O (JLh (.agg [.fn 83 [.ptr 1066 0,Ec x],I64 315]) (Hj (cs:=[.fn 83 [.ptr 1066 0,Ec x],I64 315]) [(0,1),(1,1)] [.sc .nilFunc,I64 0] [.nilFunc,E0] Zt G1a (zzQ O) O O) O (JLh (.fn 84 [.ptr 1066 0,Ec x]) (R0 (cs:=[.ptr 1066 0,Ec x]) O O) O (JLh (.agg [.fn 84 [.ptr 1066 0,Ec x],I64 317]) (Hj (cs:=[.fn 84 [.ptr 1066 0,Ec x],I64 317]) [(0,1),(1,1)] [.sc .nilFunc,I64 0] [.nilFunc,E0] Zt G1a (zzQ O) O O) O (JLh (.fn 86 [.dptr (Move.cs x),.ptr 1066 0]) (R0 (cs:=[.dptr (Move.cs x),.ptr 1066 0]) O O) O (JLh (.agg [.fn 86 [.dptr (Move.cs x),.ptr 1066 0],I64 318]) (Hj (cs:=[.fn 86 [.dptr (Move.cs x),.ptr 1066 0],I64 318]) [(0,1),(1,1)] [.sc .nilFunc,I64 0] [.nilFunc,E0] Zt G1a (zzQ O) O O) O (JLh (.fn 89 [.ptr 1066 0,Ec x,Eg b]) (R0 (cs:=[.ptr 1066 0,Ec x,Eg b]) O O) O (JLh (.agg [.fn 89 [.ptr 1066 0,Ec x,Eg b],I64 319]) (Hj (cs:=[.fn 89 [.ptr 1066 0,Ec x,Eg b],I64 319]) [(0,1),(1,1)] [.sc .nilFunc,I64 0] [.nilFunc,E0] Zt G1a (zzQ O) O O) O (JLh (.ms 1069 0 7 7) (J8c 1069 (xs:=[.agg [.fn 119 [.dptr [BL (decide (x.Ga=0))]],I64 310],.agg [.fn 119 [.dptr [BL (Gv.has m.quay x.Box)]],I64 313],.agg [.fn 82 [.ptr 1066 0,Ec x,Eg b],I64 316],.agg [.fn 83 [.ptr 1066 0,Ec x],I64 315],.agg [.fn 84 [.ptr 1066 0,Ec x],I64 317],.agg [.fn 86 [.dptr (Move.cs x),.ptr 1066 0],I64 318],.agg [.fn 89 [.ptr 1066 0,Ec x,Eg b],I64 319]]) (cs:=[.fn 119 [.dptr [BL (decide (x.Ga=0))]],I64 310,.fn 119 [.dptr [BL (Gv.has m.quay x.Box)]],I64 313,.fn 82 [.ptr 1066 0,Ec x,Eg b],I64 316,.fn 83 [.ptr 1066 0,Ec x],I64 315,.fn 84 [.ptr 1066 0,Ec x],I64 317,.fn 86 [.dptr (Move.cs x),.ptr 1066 0],I64 318,.fn 89 [.ptr 1066 0,Ec x,Eg b],I64 319]) O ⟨O,O,O,O,O,O,O,G⟩ O Gcf H1e O O O O O) O ?_)))))))))))
 obtain⟨c,w,h⟩:=Gj h
 refine JLg (I64 c) (G8e O (Q34.down [J6.mk 119 [.dptr [BL (decide (x.Ga=0))]] (Ys (decide (x.Ga=0))) 310 Gc4 O (fun q hq=>G97 (decide (x.Ga=0)) q hq),
 J6.mk 119 [.dptr [BL (Gv.has m.quay x.Box)]] (Ys (Gv.has m.quay x.Box)) 313 Gc4 rfl (fun q hq=>G97 (Gv.has m.quay x.Box) q hq),
 J6.mk 82 [.dptr [.dptr (Gh.cs m)],Ec x,Eg b] (G8b m (Move.mk x.Kind x.Box x.Slot x.Ga) b) 316 R3d rfl (fun q hq=>J84 m (Move.mk x.Kind x.Box x.Slot x.Ga) b q hq),
 J6.mk 83 [.dptr [.dptr (Gh.cs m)],Ec x] (G8a m (Move.mk x.Kind x.Box x.Slot x.Ga)) 315 R3c rfl (fun q hq=>J83 m (Move.mk x.Kind x.Box x.Slot x.Ga) q hq),
 J6.mk 84 [.dptr [.dptr (Gh.cs m)],Ec x] (G89 m (Move.mk x.Kind x.Box x.Slot x.Ga)) 317 R3b rfl (fun q hq=>J82 m (Move.mk x.Kind x.Box x.Slot x.Ga) q hq),
 J6.mk 86 [.dptr (Move.cs x),.dptr [.dptr (Gh.cs m)]] (G88 (Move.mk x.Kind x.Box x.Slot x.Ga) m) 318 R39 rfl (fun q hq=>J81 (Move.mk x.Kind x.Box x.Slot x.Ga) m q hq),
 J6.mk 89 [.dptr [.dptr (Gh.cs m)],Ec x,Eg b] (G87 m (Move.mk x.Kind x.Box x.Slot x.Ga) b) 319 R36 rfl (fun q hq=>J80 m (Move.mk x.Kind x.Box x.Slot x.Ga) b q hq)] c w) J19 ⟨.msL rfl rfl rfl ⟨.data O O,.data O O,.data O O,.data O O,.fnL ⟨.ptrL rfl ⟨.ptrL rfl (dnQ 13 O O ⟨.mp rfl,.mp rfl,.mp rfl,.data O O,trivial⟩),trivial⟩,.data O O,.data O O,trivial⟩,.data O O,.fnL ⟨.ptrL rfl ⟨.ptrL rfl (dnQ 13 O O ⟨.mp rfl,.mp rfl,.mp rfl,.data O O,trivial⟩),trivial⟩,.data O O,trivial⟩,.data O O,.fnL ⟨.ptrL rfl ⟨.ptrL rfl (dnQ 13 O O ⟨.mp rfl,.mp rfl,.mp rfl,.data O O,trivial⟩),trivial⟩,.data O O,trivial⟩,.data O O,.fnL ⟨.data O O,.ptrL rfl ⟨.ptrL rfl (dnQ 13 O O ⟨.mp rfl,.mp rfl,.mp rfl,.data O O,trivial⟩),trivial⟩,trivial⟩,.data O O,.fnL ⟨.ptrL rfl ⟨.ptrL rfl (dnQ 13 O O ⟨.mp rfl,.mp rfl,.mp rfl,.data O O,trivial⟩),trivial⟩,.data O O,.data O O,trivial⟩,.data O O,trivial⟩,trivial⟩ rfl) ?_ rfl rfl rfl
 refine JLm (I64 c) O (G8 (p (Js fun y=>Jr fun z=>(JLm (I64 c) O (JLh (BL (decide (c≠0))) (G2c O O O) O (G8 (z (JCc O h (fun h hb=>?_) (fun h hb=>?_)))))))))
 ·
  refine Jr fun f=>(JLm (I64 c) O (JLm (I64 c) O (G8 (f (Gs ?_)))))
  obtain rfl:=M2 h
  exact⟨[I64 c],[(1158,.box 79 (Ew m)),(1159,TP 75 Slot.kv Box.av m.on),(1160,TP 76 Kn Box.av m.quay),(1161,TP 77 Kn I64 m.open_)],⟨fbQ O (.sm O O),fmQ O,fmQ O,fmQ O,G⟩,rfl,⟨⟨_,rfl,.conv (.same rfl)⟩,G⟩,rfl,rfl⟩
 ·
  refine Gn (y (Js fun g=>?_))
  refine Qw (l':=[(2,.ptr 1066 0),(3,Ec x),(5,Eg b)]) (L':=[(1158,.box 79 (Ew m)),(1159,TP 75 Slot.kv Box.av m.on),(1160,TP 76 Kn Box.av m.quay),(1161,TP 77 Kn I64 m.open_),(1066,.box 40 [.ptr 1158 0]),(1069,.box 123 [.fn 119 [.dptr [BL (decide (x.Ga=0))]],I64 310,.fn 119 [.dptr [BL (Gv.has m.quay x.Box)]],I64 313,.fn 82 [.ptr 1066 0,Ec x,Eg b],I64 316,.fn 83 [.ptr 1066 0,Ec x],I64 315,.fn 84 [.ptr 1066 0,Ec x],I64 317,.fn 86 [.dptr (Move.cs x),.ptr 1066 0],I64 318,.fn 89 [.ptr 1066 0,Ec x,Eg b],I64 319])]) ⟨(.sm O O),⟨fbQ O (.sm O O),fmQ O,fmQ O,fmQ O,fbQ O ⟨.same rfl,G⟩,fbQ O (.sm O O),G⟩,rfl⟩ ?_
  refine J4 [6] [0,0,0,0,0,0,0] [0,0,0,0,0,0,0] [[(1158,.box 79 (Ew m)),(1159,TP 75 Slot.kv Box.av m.on),(1160,TP 76 Kn Box.av m.quay),(1161,TP 77 Kn I64 m.open_),(1066,.box 40 [.ptr 1158 0]),(1069,.box 123 [.fn 119 [.dptr [BL (decide (x.Ga=0))]],I64 310,.fn 119 [.dptr [BL (Gv.has m.quay x.Box)]],I64 313,.fn 82 [.ptr 1066 0,Ec x,Eg b],I64 316,.fn 83 [.ptr 1066 0,Ec x],I64 315,.fn 84 [.ptr 1066 0,Ec x],I64 317,.fn 86 [.dptr (Move.cs x),.ptr 1066 0],I64 318,.fn 89 [.ptr 1066 0,Ec x,Eg b],I64 319])],((1160,TP 76 Kn Box.av (Gv.del m.quay x.Box))::[(1158,.box 79 (Ew m)),(1159,TP 75 Slot.kv Box.av m.on),(1160,TP 76 Kn Box.av m.quay),(1161,TP 77 Kn I64 m.open_),(1066,.box 40 [.ptr 1158 0]),(1069,.box 123 [.fn 119 [.dptr [BL (decide (x.Ga=0))]],I64 310,.fn 119 [.dptr [BL (Gv.has m.quay x.Box)]],I64 313,.fn 82 [.ptr 1066 0,Ec x,Eg b],I64 316,.fn 83 [.ptr 1066 0,Ec x],I64 315,.fn 84 [.ptr 1066 0,Ec x],I64 317,.fn 86 [.dptr (Move.cs x),.ptr 1066 0],I64 318,.fn 89 [.ptr 1066 0,Ec x,Eg b],I64 319])])] Ho (by kernel_rfl) rfl rfl ?_
  refine Gc (u:=.ptr 1158 0) O O ⟨Gi (J8 Jg O O O O) O,G⟩ (Gc (u:=.ptr 1158 0) O O ⟨Gi (Ri O O) O,G⟩ (Gc (u:=.ptr 1158 14) O O ⟨Gi (Ht G1b O O) O,G⟩ (Gc (u:=.mp 1160) O O ⟨Gi (J8 G14 O O O O) O,G⟩ (Gc (u:=.dptr ((Move.cs x).drop 1)) O O ⟨Gi (Gb Y4 O O O) O,G⟩ (Gc (u:=I64 x.Box) O O ⟨Gi (Ge Gd O O O) O,G⟩ (Gf2 (u:=.tup []) O O O O (Gi (Hb9 (m:=m.quay) (a:=x.Box) (fun _=>O) O O O O Jdc Ge6) O) (Qp (g (Js fun i=>?_)))))))))
  refine Qw (l':=[(2,.ptr 1066 0),(3,Ec x),(5,Eg b)]) (L':=[(1158,.box 79 (Ew m)),(1159,TP 75 Slot.kv Box.av m.on),(1160,TP 76 Kn Box.av (Gv.del m.quay x.Box)),(1161,TP 77 Kn I64 m.open_),(1066,.box 40 [.ptr 1158 0]),(1069,.box 123 [.fn 119 [.dptr [BL (decide (x.Ga=0))]],I64 310,.fn 119 [.dptr [BL (Gv.has m.quay x.Box)]],I64 313,.fn 82 [.ptr 1066 0,Ec x,Eg b],I64 316,.fn 83 [.ptr 1066 0,Ec x],I64 315,.fn 84 [.ptr 1066 0,Ec x],I64 317,.fn 86 [.dptr (Move.cs x),.ptr 1066 0],I64 318,.fn 89 [.ptr 1066 0,Ec x,Eg b],I64 319])]) ⟨(.sm O O),⟨fbQ O (.sm O O),fmQ O,fmQ O,fmQ O,fbQ O ⟨.same rfl,G⟩,fbQ O (.sm O O),G⟩,rfl⟩ ?_
  refine J4 [7] [0,0,0,0,0,0,0,0] [0,0,0,0,0,0,0,0] [[(1158,.box 79 (Ew m)),(1159,TP 75 Slot.kv Box.av m.on),(1160,TP 76 Kn Box.av (Gv.del m.quay x.Box)),(1161,TP 77 Kn I64 m.open_),(1066,.box 40 [.ptr 1158 0]),(1069,.box 123 [.fn 119 [.dptr [BL (decide (x.Ga=0))]],I64 310,.fn 119 [.dptr [BL (Gv.has m.quay x.Box)]],I64 313,.fn 82 [.ptr 1066 0,Ec x,Eg b],I64 316,.fn 83 [.ptr 1066 0,Ec x],I64 315,.fn 84 [.ptr 1066 0,Ec x],I64 317,.fn 86 [.dptr (Move.cs x),.ptr 1066 0],I64 318,.fn 89 [.ptr 1066 0,Ec x,Eg b],I64 319])],((1159,TP 75 Slot.kv Box.av (Gv.put m.on x.Slot b))::[(1158,.box 79 (Ew m)),(1159,TP 75 Slot.kv Box.av m.on),(1160,TP 76 Kn Box.av (Gv.del m.quay x.Box)),(1161,TP 77 Kn I64 m.open_),(1066,.box 40 [.ptr 1158 0]),(1069,.box 123 [.fn 119 [.dptr [BL (decide (x.Ga=0))]],I64 310,.fn 119 [.dptr [BL (Gv.has m.quay x.Box)]],I64 313,.fn 82 [.ptr 1066 0,Ec x,Eg b],I64 316,.fn 83 [.ptr 1066 0,Ec x],I64 315,.fn 84 [.ptr 1066 0,Ec x],I64 317,.fn 86 [.dptr (Move.cs x),.ptr 1066 0],I64 318,.fn 89 [.ptr 1066 0,Ec x,Eg b],I64 319])])] Ho (by kernel_rfl) rfl rfl ?_
  refine Gc (u:=.ptr 1158 0) O O ⟨Gi (J8 Jg O O O O) O,G⟩ (Gc (u:=.ptr 1158 0) O O ⟨Gi (Ri O O) O,G⟩ (Gc (u:=.ptr 1158 13) O O ⟨Gi (Ht Y3 O O) O,G⟩ (Gc (u:=.mp 1159) O O ⟨Gi (J8 Y5 O O O O) O,G⟩ (Gc (u:=.dptr ((Move.cs x).drop 2)) O O ⟨Gi (Gb Qd O O O) O,G⟩ (Gc (u:=.agg (Slot.cs x.Slot)) O O ⟨Gi (Gt Hx O O O) O,G⟩ (Gc (u:=.agg (Box.cs b)) O O ⟨Gi (Gt Yf O O O) O,G⟩ (Gf2 (u:=.junk) O O O O (Gi (G62 (m:=m.on) (a:=x.Slot) (v:=b) (fun _=>O) O O O O O O Q70 G4e) O) (Qp (i ?_)))))))))
  refine Jr fun j=>(JLh (.ptr 1158 0) (J8 Jg O O O O) O (JLh (.ptr 1158 0) (Ri O O) O (JLh (.ptr 1158 16) (Ht Ga5 O O) O (JLh (I64 m.lifts) (J8 Gd O O O O) O ?_))))
  obtain⟨d,k,h⟩:=Zw h
  refine JLh (I64 d) (Jo k O O O) O (JLh (.ptr 1158 0) (Ri O O) O (JLh (.ptr 1158 16) (Ht Ga5 O O) O (J9 (u:=.junk) (He (u:=I64 d) (ds:=[E3 m.ship.Columns,E7 m.ship.Covers,I64 m.ship.Light.Kilos,I64 m.ship.Light.X,I64 m.ship.Light.Y,I64 m.ship.Light.Z,E4 m.ship.Rows,E5 m.ship.Frames,E6 m.ship.Tanks,I64 m.ship.G5.Tolerance,I64 m.ship.G5.Trim,I64 m.ship.G5.List_,I64 m.ship.G5.Stability,.mp 1159,.mp 1160,.mp 1161,I64 d]) H2b O O O O O O O O) (G8 (j (Jr fun l=>(JLm (I64 0) O (G8 (l (Gs ?_))))))))))
  obtain rfl:=M2 h
  exact⟨[I64 0],[(1158,.box 79 [E3 m.ship.Columns,E7 m.ship.Covers,I64 m.ship.Light.Kilos,I64 m.ship.Light.X,I64 m.ship.Light.Y,I64 m.ship.Light.Z,E4 m.ship.Rows,E5 m.ship.Frames,E6 m.ship.Tanks,I64 m.ship.G5.Tolerance,I64 m.ship.G5.Trim,I64 m.ship.G5.List_,I64 m.ship.G5.Stability,.mp 1159,.mp 1160,.mp 1161,I64 d]),(1159,TP 75 Slot.kv Box.av (Gv.put m.on x.Slot b)),(1160,TP 76 Kn Box.av (Gv.del m.quay x.Box)),(1161,TP 77 Kn I64 m.open_)],⟨fbQ O (.sm O O),fmQ O,fmQ O,fmQ O,G⟩,rfl,⟨⟨_,rfl,.conv (.same rfl)⟩,G⟩,rfl,rfl⟩

def G98 (m:Gh) (x:Move):Option (Int×Gh):=
 jp (fun a=>
  bif decide (x.Kind=1) then
  (a (decide (x.Kind=1)))
  else
  (a (decide (x.Kind=4)))) fun(e:Bool)=>
 bif e then
 (bnd (G0d m (Move.mk x.Kind x.Box x.Slot x.Ga)) fun b=>
  some (b.1,b.2))
 else
 (bif decide (x.Kind=2) then
  (bnd (Gb3 m (Move.mk x.Kind x.Box x.Slot x.Ga)) fun c=>
   some (c.1,c.2))
  else
  (bif decide (x.Kind=3) then
   (bnd (Gd9 m (Move.mk x.Kind x.Box x.Slot x.Ga)) fun d=>
    some (d.1,d.2))
   else
   (some (310,m))))
abbrev Ex (m:Gh):List AV:=[E3 m.ship.Columns,E7 m.ship.Covers,I64 m.ship.Light.Kilos,I64 m.ship.Light.X,I64 m.ship.Light.Y,I64 m.ship.Light.Z,E4 m.ship.Rows,E5 m.ship.Frames,E6 m.ship.Tanks,I64 m.ship.G5.Tolerance,I64 m.ship.G5.Trim,I64 m.ship.G5.List_,I64 m.ship.G5.Stability,.mp 1159,.mp 1160,.mp 1161,I64 m.lifts]
theorem He6 (m:Gh) (x:Move) (r:Int×Gh) (h:G98 m x=some r):Jx Ek 16 [.ptr 1158 0,.agg (Move.cs x)] [(1158,.box 79 [E3 m.ship.Columns,E7 m.ship.Covers,I64 m.ship.Light.Kilos,I64 m.ship.Light.X,I64 m.ship.Light.Y,I64 m.ship.Light.Z,E4 m.ship.Rows,E5 m.ship.Frames,E6 m.ship.Tanks,I64 m.ship.G5.Tolerance,I64 m.ship.G5.Trim,I64 m.ship.G5.List_,I64 m.ship.G5.Stability,.mp 1159,.mp 1160,.mp 1161,I64 m.lifts]),(1159,TP 75 Slot.kv Box.av m.on),(1160,TP 76 Kn Box.av m.quay),(1161,TP 77 Kn I64 m.open_)] (fun av L'=>av=I64 r.1∧L'=[(1158,.box 79 [E3 r.2.ship.Columns,E7 r.2.ship.Covers,I64 r.2.ship.Light.Kilos,I64 r.2.ship.Light.X,I64 r.2.ship.Light.Y,I64 r.2.ship.Light.Z,E4 r.2.ship.Rows,E5 r.2.ship.Frames,E6 r.2.ship.Tanks,I64 r.2.ship.G5.Tolerance,I64 r.2.ship.G5.Trim,I64 r.2.ship.G5.List_,I64 r.2.ship.G5.Stability,.mp 1159,.mp 1160,.mp 1161,I64 r.2.lifts]),(1159,TP 75 Slot.kv Box.av r.2.on),(1160,TP 76 Kn Box.av r.2.quay),(1161,TP 77 Kn I64 r.2.open_)]):=by
 unfold G98 at h
 refine Ye [1158,1159,1160,1161] [.tmp 4] Tryz.func16 O O (H18 O) (Jr fun q=>(JLh (.ptr 1024 0) (Ju (cs:=[U8 x.Kind,I64 x.Box,I64 x.Slot.G1,I64 x.Slot.Tier,U8 x.Slot.Half,I64 x.Ga]) 1024 O O O O O) O (JLm (I64 0) O (G8 (q ?_)))))
 refine Gu [(0,.ptr 1158 0),(3,Ec x)] [(1158,.box 79 (Ex m)),(1159,TP 75 Slot.kv Box.av m.on),(1160,TP 76 Kn Box.av m.quay),(1161,TP 77 Kn I64 m.open_)] 1024 rfl rfl rfl ⟨⟨_,rfl,.boxEq rfl rfl⟩,fmQ O,fmQ O,fmQ O,G⟩ rfl (by exact⟨.conv (.same rfl),.ptr,G⟩) (Js fun s=>?_)
 refine Jr fun t=>(JLm (.ptr 1158 0) O (JLh (BL true) (G8e (args:=[.dptr (Gh.cs m)]) O (Ry m true O) G5b ⟨.ptrL O (dnQ 13 O O ⟨.mp O,.mp O,.mp O,.data O O,G⟩),G⟩ O) O (JLh (BL false) (R2 (b:=true) O O) O (G8 (t (G42 O (Gn (s (Js fun u=>Jr fun v=>(JLh (Ec x) (Gb Zu O O O) O (JLh (U8 x.Kind) (Ge Hm O O O) O (G8 (v (Gx ?_))))))))))))))
 obtain⟨w,f,h⟩:=Ga2 h
 refine G4d (fun e:Bool=>w e=some r) (fun e=>[(0,.ptr 1158 0),(3,Ec x),(9,U8 x.Kind),(10,BL e)]) (fun e=>[(1158,.box 79 (Ex m)),(1159,TP 75 Slot.kv Box.av m.on),(1160,TP 76 Kn Box.av m.quay),(1161,TP 77 Kn I64 m.open_)]) (fun Kj7 ej7=>?_) ?_
 ·
  refine Jr fun y=>(JLh (BL (decide (x.Kind=1))) (Jk O O O) O (JLm (BL (decide (x.Kind=1))) O (G8 (y (JCc O h (fun h hb=>?_) (fun h hb=>?_))))))
  ·
   refine Gn (ej7 _ _ (decide (x.Kind=1)) h ⟨(.sm O O),⟨fbQ O (.sm O O),fmQ O,fmQ O,fmQ O,G⟩,rfl⟩)
  ·
   refine G2 (JLh (BL (decide (x.Kind=4))) (Jk O O O) O (JLm (BL (decide (x.Kind=4))) O (G8 (ej7 _ _ (decide (x.Kind=4)) h ⟨(.sm O O),⟨fbQ O (.sm O O),fmQ O,fmQ O,fmQ O,G⟩,rfl⟩))))
 ·intro e h
  replace h:=app1 f h
  refine JCc O h ?_ ?_<;>intro h hb
  ·
   refine Jr fun z=>(JLm (.ptr 1158 0) O (JLh (.agg (Move.cs x)) (Gt G23 O O O) O ?_))
   obtain⟨a,g,h⟩:=Gj h
   refine JLh (I64 a.1) (Gbc (args:=[.ptr 1158 0,.agg (Move.cs x)]) (L0:=[(1158,.box 79 (Ex m)),(1159,TP 75 Slot.kv Box.av m.on),(1160,TP 76 Kn Box.av m.quay),(1161,TP 77 Kn I64 m.open_)]) (Lr:=[(1158,.box 79 [E3 a.2.ship.Columns,E7 a.2.ship.Covers,I64 a.2.ship.Light.Kilos,I64 a.2.ship.Light.X,I64 a.2.ship.Light.Y,I64 a.2.ship.Light.Z,E4 a.2.ship.Rows,E5 a.2.ship.Frames,E6 a.2.ship.Tanks,I64 a.2.ship.G5.Tolerance,I64 a.2.ship.G5.Trim,I64 a.2.ship.G5.List_,I64 a.2.ship.G5.Stability,.mp 1159,.mp 1160,.mp 1161,I64 a.2.lifts]),(1159,TP 75 Slot.kv Box.av a.2.on),(1160,TP 76 Kn Box.av a.2.quay),(1161,TP 77 Kn I64 a.2.open_)]) O (J5e m (Move.mk x.Kind x.Box x.Slot x.Ga) a g) R4f ⟨.inl O,O,.inl O,O,G⟩ ⟨O,O,O,O,G⟩ O O O) O (JLm (I64 a.1) O (G8 (z ?_)))
   refine Gs ?_
   obtain rfl:=M2 h
   exact⟨[I64 a.1],[(1158,.box 79 [E3 a.2.ship.Columns,E7 a.2.ship.Covers,I64 a.2.ship.Light.Kilos,I64 a.2.ship.Light.X,I64 a.2.ship.Light.Y,I64 a.2.ship.Light.Z,E4 a.2.ship.Rows,E5 a.2.ship.Frames,E6 a.2.ship.Tanks,I64 a.2.ship.G5.Tolerance,I64 a.2.ship.G5.Trim,I64 a.2.ship.G5.List_,I64 a.2.ship.G5.Stability,.mp 1159,.mp 1160,.mp 1161,I64 a.2.lifts]),(1159,TP 75 Slot.kv Box.av a.2.on),(1160,TP 76 Kn Box.av a.2.quay),(1161,TP 77 Kn I64 a.2.open_)],⟨fbQ O (.sm O O),fmQ O,fmQ O,fmQ O,G⟩,rfl,⟨⟨_,rfl,.conv (.same rfl)⟩,G⟩,rfl,rfl⟩
  ·
   refine Jr fun i=>(JLh (BL (decide (x.Kind=2))) (Jk O O O) O (JLm (BL (decide (x.Kind=2))) O (G8 (i (JCc O h (fun h hb=>?_) (fun h hb=>?_))))))
   ·
    refine Jr fun j=>(JLm (.ptr 1158 0) O (JLh (.agg (Move.cs x)) (Gt G23 O O O) O ?_))
    obtain⟨c,k,h⟩:=Gj h
    refine JLh (I64 c.1) (Gbc (args:=[.ptr 1158 0,.agg (Move.cs x)]) (L0:=[(1158,.box 79 (Ex m)),(1159,TP 75 Slot.kv Box.av m.on),(1160,TP 76 Kn Box.av m.quay),(1161,TP 77 Kn I64 m.open_)]) (Lr:=[(1158,.box 79 [E3 c.2.ship.Columns,E7 c.2.ship.Covers,I64 c.2.ship.Light.Kilos,I64 c.2.ship.Light.X,I64 c.2.ship.Light.Y,I64 c.2.ship.Light.Z,E4 c.2.ship.Rows,E5 c.2.ship.Frames,E6 c.2.ship.Tanks,I64 c.2.ship.G5.Tolerance,I64 c.2.ship.G5.Trim,I64 c.2.ship.G5.List_,I64 c.2.ship.G5.Stability,.mp 1159,.mp 1160,.mp 1161,I64 c.2.lifts]),(1159,TP 75 Slot.kv Box.av c.2.on),(1160,TP 76 Kn Box.av c.2.quay),(1161,TP 77 Kn I64 c.2.open_)]) O (Jc2 m (Move.mk x.Kind x.Box x.Slot x.Ga) c k) R4e ⟨.inl O,O,.inl O,O,G⟩ ⟨O,O,O,O,G⟩ O O O) O (JLm (I64 c.1) O (G8 (j ?_)))
    refine Gs ?_
    obtain rfl:=M2 h
    exact⟨[I64 c.1],[(1158,.box 79 [E3 c.2.ship.Columns,E7 c.2.ship.Covers,I64 c.2.ship.Light.Kilos,I64 c.2.ship.Light.X,I64 c.2.ship.Light.Y,I64 c.2.ship.Light.Z,E4 c.2.ship.Rows,E5 c.2.ship.Frames,E6 c.2.ship.Tanks,I64 c.2.ship.G5.Tolerance,I64 c.2.ship.G5.Trim,I64 c.2.ship.G5.List_,I64 c.2.ship.G5.Stability,.mp 1159,.mp 1160,.mp 1161,I64 c.2.lifts]),(1159,TP 75 Slot.kv Box.av c.2.on),(1160,TP 76 Kn Box.av c.2.quay),(1161,TP 77 Kn I64 c.2.open_)],⟨fbQ O (.sm O O),fmQ O,fmQ O,fmQ O,G⟩,rfl,⟨⟨_,rfl,.conv (.same rfl)⟩,G⟩,rfl,rfl⟩
   ·
    refine Jr fun l=>(JLh (BL (decide (x.Kind=3))) (Jk O O O) O (JLm (BL (decide (x.Kind=3))) O (G8 (l (JCc O h (fun h hb=>?_) (fun h hb=>?_))))))
    ·
     refine Jr fun n=>(JLm (.ptr 1158 0) O (JLh (.agg (Move.cs x)) (Gt G23 O O O) O ?_))
     obtain⟨d,o,h⟩:=Gj h
     refine JLh (I64 d.1) (Gbc (args:=[.ptr 1158 0,.agg (Move.cs x)]) (L0:=[(1158,.box 79 (Ex m)),(1159,TP 75 Slot.kv Box.av m.on),(1160,TP 76 Kn Box.av m.quay),(1161,TP 77 Kn I64 m.open_)]) (Lr:=[(1158,.box 79 [E3 d.2.ship.Columns,E7 d.2.ship.Covers,I64 d.2.ship.Light.Kilos,I64 d.2.ship.Light.X,I64 d.2.ship.Light.Y,I64 d.2.ship.Light.Z,E4 d.2.ship.Rows,E5 d.2.ship.Frames,E6 d.2.ship.Tanks,I64 d.2.ship.G5.Tolerance,I64 d.2.ship.G5.Trim,I64 d.2.ship.G5.List_,I64 d.2.ship.G5.Stability,.mp 1159,.mp 1160,.mp 1161,I64 d.2.lifts]),(1159,TP 75 Slot.kv Box.av d.2.on),(1160,TP 76 Kn Box.av d.2.quay),(1161,TP 77 Kn I64 d.2.open_)]) O (Q49 m (Move.mk x.Kind x.Box x.Slot x.Ga) d o) R4d ⟨.inl O,O,.inl O,O,G⟩ ⟨O,O,O,O,G⟩ O O O) O (JLm (I64 d.1) O (G8 (n ?_)))
     refine Gs ?_
     obtain rfl:=M2 h
     exact⟨[I64 d.1],[(1158,.box 79 [E3 d.2.ship.Columns,E7 d.2.ship.Covers,I64 d.2.ship.Light.Kilos,I64 d.2.ship.Light.X,I64 d.2.ship.Light.Y,I64 d.2.ship.Light.Z,E4 d.2.ship.Rows,E5 d.2.ship.Frames,E6 d.2.ship.Tanks,I64 d.2.ship.G5.Tolerance,I64 d.2.ship.G5.Trim,I64 d.2.ship.G5.List_,I64 d.2.ship.G5.Stability,.mp 1159,.mp 1160,.mp 1161,I64 d.2.lifts]),(1159,TP 75 Slot.kv Box.av d.2.on),(1160,TP 76 Kn Box.av d.2.quay),(1161,TP 77 Kn I64 d.2.open_)],⟨fbQ O (.sm O O),fmQ O,fmQ O,fmQ O,G⟩,rfl,⟨⟨_,rfl,.conv (.same rfl)⟩,G⟩,rfl,rfl⟩
    ·
     refine Gn (u (Jr fun p=>(JLm (I64 310) O (G8 (p (Gs ?_))))))
     obtain rfl:=M2 h
     exact⟨[I64 310],[(1158,.box 79 (Ex m)),(1159,TP 75 Slot.kv Box.av m.on),(1160,TP 76 Kn Box.av m.quay),(1161,TP 77 Kn I64 m.open_)],⟨fbQ O (.sm O O),fmQ O,fmQ O,fmQ O,G⟩,rfl,⟨⟨_,rfl,.conv (.same rfl)⟩,G⟩,rfl,rfl⟩
end
end Go.Proofs.YtmfhaflabpnaoaaGreat
