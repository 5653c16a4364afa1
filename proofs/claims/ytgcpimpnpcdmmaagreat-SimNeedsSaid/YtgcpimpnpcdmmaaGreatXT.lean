/- Walks of functions. -/
import Derived.Test.YtgcpimpnpcdmmaaGreatSpecK
set_option maxRecDepth 100000
set_option maxHeartbeats 1000000
set_option linter.unusedVariables false
set_option linter.unusedSimpArgs false
namespace Go.Proofs.YtgcpimpnpcdmmaaGreat
open Go.RowKit
noncomputable section
structure Move where
 Kind:Int
 Box:Int
 Slot:Slot
 G9:Int
 deriving DecidableEq,Inhabited
def Move.cs (x:Move):List AV:=[U8 x.Kind,I64 x.Box,I64 x.Slot.G3,I64 x.Slot.Tier,U8 x.Slot.Half,I64 x.G9]
def Move.av (x:Move):AV:=.agg x.cs
abbrev Ef (x:Move):AV:=.dptr (Move.cs x)
abbrev E9:=LS 6 Move.av
namespace XTF
open XAF
open XCF
open XSF
open XKF
theorem G65:H3e En 59 6=true:=by kernel_rfl
theorem Gf9:H1 En 123=true:=by kernel_rfl
theorem Rb1:H1 En 125=true:=by kernel_rfl
theorem Y2e:H1 En 41=true:=by kernel_rfl
theorem Y2d:H1 En 42=true:=by kernel_rfl
theorem Y2c:H1 En 43=true:=by kernel_rfl
theorem Qae:H1 En 63=true:=by kernel_rfl
theorem Qad:H1 En 64=true:=by kernel_rfl
theorem Qac:H1 En 65=true:=by kernel_rfl
theorem Qab:H1 En 71=true:=by kernel_rfl
theorem Y23:H1 En 73=true:=by kernel_rfl
theorem Jb0:H1 En 74=true:=by kernel_rfl
theorem Y22:H1 En 75=true:=by kernel_rfl
theorem Jaf:H1 En 76=true:=by kernel_rfl
theorem H30:H1 En 77=true:=by kernel_rfl
theorem Y21:H1 En 78=true:=by kernel_rfl
theorem Y20:H1 En 79=true:=by kernel_rfl
theorem Y1f:H1 En 80=true:=by kernel_rfl
theorem Qaa:H1 En 81=true:=by kernel_rfl
theorem Y1e:H1 En 82=true:=by kernel_rfl
theorem Y1d:H1 En 83=true:=by kernel_rfl
theorem Y1c:H1 En 84=true:=by kernel_rfl
theorem Y1b:H1 En 85=true:=by kernel_rfl
theorem Y1a:H1 En 86=true:=by kernel_rfl
theorem Y19:H1 En 87=true:=by kernel_rfl
theorem Y18:H1 En 88=true:=by kernel_rfl
theorem Y17:H1 En 89=true:=by kernel_rfl
theorem Qa9:H1 En 90=true:=by kernel_rfl
theorem H48:Jw En 59 0 0=true:=by kernel_rfl
theorem G59:Jw En 59 1 1=true:=by kernel_rfl
theorem Qx:Jw En 59 2 2=true:=by kernel_rfl
theorem G2d:Jw En 59 3 5=true:=by kernel_rfl
theorem G58:Jw En 94 2 14=true:=by kernel_rfl
theorem Jj:Rb En 52=true:=by kernel_rfl
theorem G63:Yg En 3 1=true:=by kernel_rfl
theorem R2a:Yg En 4 1=true:=by kernel_rfl
theorem Y0c:R1 En 4 1=true:=by kernel_rfl
theorem J75:(En.info? 103).bind (·.zero)=some (.agg #[E0,.string ByteArray.empty,.int .u8 0,.bool false,E0,E0,E0,.int .u8 0,.bool false]):=by kernel_rfl
end XTF
open XAF
open XCF
open XSF
open XKF
open XTF

def G27 (y:Slot) (a:Ge) (c:Move):Option Bool:=
 Qm a.ship.Columns y.G3 fun b=>
 bnd (bif b.Deck then Rh a.ship y.G3 else some default) fun d=>
 some (b.Deck&&(decide (d=c.G9)))
theorem J41 (y:Slot) (b:Ge) (a:Move) (r:Bool) (h:G27 y b a=some r):Pure En 75 [.agg [I64 y.G3,I64 y.Tier,U8 y.Half],.dptr [.dptr (Ge.cs b)],.dptr [U8 a.Kind,I64 a.Box,I64 a.Slot.G3,I64 a.Slot.Tier,U8 a.Slot.Half,I64 a.G9]] (·=BL r):=by
 unfold G27 at h
 refine Gz [.tmp 4] Tryz.func75 O O (Jr fun e=>(JLh (.ptr 1148 0) (Q6 (cs:=[I64 y.G3,I64 y.Tier,U8 y.Half]) 1148 O O O O O) O (JLm (BL false) O (G6 (e (Gr [(1,.dptr [.dptr (Ge.cs b)]),(2,.dptr [U8 a.Kind,I64 a.Box,I64 a.Slot.G3,I64 a.Slot.Tier,U8 a.Slot.Half,I64 a.G9]),(3,.dptr [I64 y.G3,I64 y.Tier,U8 y.Half])] [] 1148 rfl rfl rfl ø rfl (by exact⟨.conv (.same rfl),.conv (.same rfl),.ptr,ø⟩) (Js fun g=>?_)))))))
 obtain⟨l,c,i,j,h⟩:=Rw h
 obtain⟨d,k,h⟩:=Gd h
 refine JC_d0 J1 (by kernel_rfl) (Dq (Eg b) (Gg Jj O O O) O (Dq (Eg b) (G83 O O) O (Dq (Eg b) (Ga Yw O O O) O (Dq (Eg b) (Ga Jc O O O) O (Dq (E3 b.ship.Columns) (Gg Jv O O O) O (Dq (.dptr [I64 y.G3,I64 y.Tier,U8 y.Half]) (Ga Jb O O O) O (Dq (I64 y.G3) (Gg Gb O O O) O (Dq (Ej c) (Hb (f:=G3.av) (xs:=b.ship.Columns) (y:=c) O O O Hz j i) O (Dq (.dptr ((G3.cs c).drop 2)) (Ga Yu O O O) O (Dq (BL c.Deck) (Gg Qe O O O) O (Dq (BL c.Deck) (G5 O O) O (Do (Eg b) [] O .sct ø (fun hc=>Gg Jj O O O) O (Do (Eg b) [16] O .sct ⟨Ua,ø⟩ (fun hc=>G83 O O) O ?_)))))))))))))
 refine Do (Eg b) [17] O .sct ⟨Ua,ø⟩ (fun hc=>Ga Yw O O O) O (Do (.agg (Gj.cs b.ship)) [18] O .sct ⟨Ua,ø⟩ (fun hc=>Gm J8 O O O) O (Do (.dptr [I64 y.G3,I64 y.Tier,U8 y.Half]) [] O .sct ø (fun hc=>Ga Jb O O O) O (Do (I64 y.G3) [20] O .sct ⟨Ua,ø⟩ (fun hc=>Gg Gb O O O) O (Do (I64 d) [19,21] O .sct ⟨Ua,Ua,ø⟩ (fun hc=>Gu (args:=[.agg (Gj.cs b.ship),I64 y.G3]) O (G70 b.ship y.G3 d (H2 hc k)) H90 ⟨O,O,O,O,ø⟩) O (Do (.dptr [I64 a.G9]) [] O .sct ø (fun hc=>Ga G2d O O O) O (Do (I64 a.G9) [23] O .sct ⟨Ua,ø⟩ (fun hc=>Gg Gb O O O) O (Do (BL (decide (d=a.G9))) [22,24] O .sct ⟨Ua,Ua,ø⟩ (fun hc=>Qg O O O) O (Dq (BL (c.Deck&&(decide (d=a.G9)))) (Ri O O O O) O (Dq (BL (c.Deck&&(decide (d=a.G9)))) (G7 O O) O (Dnil ?_))))))))))
 refine g (Gs (fin1 BL h))

def G15 (a:Bool) (b:Ge) (c:Move):Option Bool:=
 bnd (bif (!(!a)) then G07 b (fun z0=>G27 z0 b c) else some default) fun d=>
 some ((!a)||(!d))
theorem J97 (c:Bool) (a:Ge) (d:Move) (r:Bool) (h:G15 c a d=some r):Pure En 73 [.dptr [BL c],.dptr [.dptr (Ge.cs a)],Ef d] (·=BL r):=by
 unfold G15 at h
 refine Gz [.tmp 3] Tryz.func73 O O (Jr fun f=>(JLm (BL false) O (G6 (f (Jr fun g=>(JLh (BL c) (Gg Qe O O O) O (JLh (BL (!c)) (Yc (b:=c) O O) O (JLm (BL (!c)) O (JLo (Eg a) [] O .scf ø (fun hc=>Gg Jj O O O) O (JLo (.fn 75 [.dptr [.dptr (Ge.cs a)],Ef d]) [] O .scf ø (fun hc=>Q4 (cs:=[.dptr [.dptr (Ge.cs a)],Ef d]) O O) O ?_))))))))))
 obtain⟨e,i,h⟩:=Gd h
 refine JLo (BL e) [7,8] O .scf ⟨Ua,Ua,ø⟩ (fun hc=>Gu (args:=[.dptr (Ge.cs a),.fn 75 [.dptr [.dptr (Ge.cs a)],Ef d]]) O (H71.down a (fun z0=>G27 z0 a d) 75 [.dptr [.dptr (Ge.cs a)],Ef d] Y22 O (fun z0 q hq=>J41 z0 a d q hq) e (H2 hc i)) Jb0 ⟨O,O,O,O,ø⟩) O (JLo (BL (!e)) [9] O .scf ⟨Ua,ø⟩ (fun hc=>Yc (b:=e) O O) O (JLh (BL ((!c)||(!e))) (G82 O O O O) O (JLm (BL ((!c)||(!e))) O (G6 (g (Gs (fin1 BL h)))))))

def G1b (m:Ge) (x:Move):Option (Int×Ge):=
 bnd (H65 ((((decide (x.Box=0))&&(decide (x.Slot=(Slot.mk 0 0 0))))&&(decide (0≤x.G9)))&&(decide (x.G9 < (m.ship.Covers.length:Int)))) 310) fun g=>
 bnd (some (Gw.get m.open_ x.G9 0)) fun b=>
 bnd (H65 (!((decide (0 < b))==(decide (x.Kind=1)))) 311) fun h=>
 bnd (H4e [(Z8 ((((decide (x.Box=0))&&(decide (x.Slot=(Slot.mk 0 0 0))))&&(decide (0≤x.G9)))&&(decide (x.G9 < (m.ship.Covers.length:Int)))),310),
  (Z8 (!((decide (0 < b))==(decide (x.Kind=1)))),311),
  (G15 (decide (x.Kind=1)) m (Move.mk x.Kind x.Box x.Slot x.G9),312)]) fun c=>
 bif decide (c≠0) then
 (some (c,m))
 else
 (jp (fun a=>
   bif decide (x.Kind=1) then
   (bnd (some (Gw.get m.open_ x.G9 0)) fun d=>
    chk (d+1) fun e=>
    a (Ge.mk m.ship m.on m.quay (Gw.put m.open_ x.G9 e) m.lifts))
   else
   (a (Ge.mk m.ship m.on m.quay (Gw.del m.open_ x.G9) m.lifts))) fun(f:Ge)=>
  some (0,f))
abbrev Es (m:Ge):List AV:=[E3 m.ship.Columns,E7 m.ship.Covers,I64 m.ship.Light.Kilos,I64 m.ship.Light.X,I64 m.ship.Light.Y,I64 m.ship.Light.Z,E4 m.ship.Rows,E5 m.ship.Frames,E6 m.ship.Tanks,I64 m.ship.G8.Tolerance,I64 m.ship.G8.Trim,I64 m.ship.G8.List_,I64 m.ship.G8.Stability,.mp 7001,.mp 7002,.mp 7003,I64 m.lifts]
abbrev Eu (x:Move) (m:Ge):List AV:=[.dptr [BL ((((decide (x.Box=0))&&(decide (x.Slot=(Slot.mk 0 0 0))))&&(decide (0≤x.G9)))&&(decide (x.G9 < (m.ship.Covers.length:Int))))]]
abbrev Ev (x:Move):List AV:=[.dptr [BL (decide (x.Kind=1))],.ptr 1076 0,Ef x]
abbrev Ew (a:Ge):List AV:=[E3 a.ship.Columns,E7 a.ship.Covers,I64 a.ship.Light.Kilos,I64 a.ship.Light.X,I64 a.ship.Light.Y,I64 a.ship.Light.Z,E4 a.ship.Rows,E5 a.ship.Frames,E6 a.ship.Tanks,I64 a.ship.G8.Tolerance,I64 a.ship.G8.Trim,I64 a.ship.G8.List_,I64 a.ship.G8.Stability,.mp 7001,.mp 7002,.mp 7003,I64 a.lifts]
theorem Jff (m:Ge) (x:Move) (r:Int×Ge) (h:G1b m x=some r):Hx En 41 [.ptr 7000 0,.agg (Move.cs x)] [(7000,.box 94 [E3 m.ship.Columns,E7 m.ship.Covers,I64 m.ship.Light.Kilos,I64 m.ship.Light.X,I64 m.ship.Light.Y,I64 m.ship.Light.Z,E4 m.ship.Rows,E5 m.ship.Frames,E6 m.ship.Tanks,I64 m.ship.G8.Tolerance,I64 m.ship.G8.Trim,I64 m.ship.G8.List_,I64 m.ship.G8.Stability,.mp 7001,.mp 7002,.mp 7003,I64 m.lifts]),(7001,TP 90 Slot.kv Box.av m.on),(7002,TP 91 Ks Box.av m.quay),(7003,TP 92 Ks I64 m.open_)] (fun av L'=>av=I64 r.1∧L'=[(7000,.box 94 [E3 r.2.ship.Columns,E7 r.2.ship.Covers,I64 r.2.ship.Light.Kilos,I64 r.2.ship.Light.X,I64 r.2.ship.Light.Y,I64 r.2.ship.Light.Z,E4 r.2.ship.Rows,E5 r.2.ship.Frames,E6 r.2.ship.Tanks,I64 r.2.ship.G8.Tolerance,I64 r.2.ship.G8.Trim,I64 r.2.ship.G8.List_,I64 r.2.ship.G8.Stability,.mp 7001,.mp 7002,.mp 7003,I64 r.2.lifts]),(7001,TP 90 Slot.kv Box.av r.2.on),(7002,TP 91 Ks Box.av r.2.quay),(7003,TP 92 Ks I64 r.2.open_)]):=by
 unfold G1b at h
 refine Ji [7000,7001,7002,7003] [.tmp 4] Tryz.func41 O O (G0c O) (Jr fun s=>(JLh (.ptr 1076 0) (Q6 (cs:=[.ptr 7000 0]) 1076 O O O O O) O (JLh (.ptr 1077 0) (Q6 (cs:=[U8 x.Kind,I64 x.Box,I64 x.Slot.G3,I64 x.Slot.Tier,U8 x.Slot.Half,I64 x.G9]) 1077 O O O O O) O (JLm (I64 0) O (G6 (s ?_))))))
 refine Gr [(2,.ptr 1076 0),(3,Ef x)] [(7000,.box 94 (Es m)),(7001,TP 90 Slot.kv Box.av m.on),(7002,TP 91 Ks Box.av m.quay),(7003,TP 92 Ks I64 m.open_),(1076,.box 52 [.ptr 7000 0])] 1077 rfl rfl rfl ⟨⟨_,rfl,.boxEq rfl rfl⟩,fmQ O,fmQ O,fmQ O,⟨_,rfl,.boxEq rfl rfl⟩,ø⟩ rfl (by exact⟨.conv (.same rfl),.ptr,ø⟩) ?_
 refine Jr fun t=>(JLh (Ef x) (Ga H48 O O O) O (JLh (U8 x.Kind) (Gg Hy O O O) O (JLh (BL (decide (x.Kind=1))) (Qg O O O) O (JLh (.ptr 1078 0) (Hj 1078 1 Y0c O O) O (Hq (u:=.junk) (H7 (u:=BL (decide (x.Kind=1))) (ds:=[BL (decide (x.Kind=1))]) R2a O O O O O O O O) (G6 (t ?_)))))))
 refine Gr [(2,.ptr 1076 0),(3,Ef x),(5,.dptr [BL (decide (x.Kind=1))])] [(7000,.box 94 (Es m)),(7001,TP 90 Slot.kv Box.av m.on),(7002,TP 91 Ks Box.av m.quay),(7003,TP 92 Ks I64 m.open_),(1076,.box 52 [.ptr 7000 0])] 1078 rfl rfl rfl ⟨⟨_,rfl,.boxEq rfl rfl⟩,fmQ O,fmQ O,fmQ O,⟨_,rfl,.boxEq rfl rfl⟩,ø⟩ rfl (by exact⟨.conv (.same rfl),.conv (.same rfl),.ptr,ø⟩) ?_
 refine Jr fun w=>(JLh (.fn 73 (Ev x)) (Q4 (cs:=(Ev x)) O O) O (JLm (.fn 73 (Ev x)) O (G6 (w (Js fun y=>?_)))))
 refine Qn (l':=[(2,.ptr 1076 0),(3,Ef x),(5,.dptr [BL (decide (x.Kind=1))]),(6,.fn 73 (Ev x))]) (L':=[(7000,.box 94 (Es m)),(7001,TP 90 Slot.kv Box.av m.on),(7002,TP 91 Ks Box.av m.quay),(7003,TP 92 Ks I64 m.open_),(1076,.box 52 [.ptr 7000 0])]) ⟨(.sm O O),⟨fbQ O (.sm O O),fmQ O,fmQ O,fmQ O,fbQ O ⟨.same rfl,ø⟩,ø⟩,rfl⟩ ?_
 obtain⟨r5,z,h⟩:=Gd h
 obtain⟨c,a0,h⟩:=Gd h
 obtain⟨r7,a1,h⟩:=Gd h
 obtain⟨d,a2,h⟩:=Gd h
 refine Jm [39] [0,0,0,0,0,0,0,0,0,0,0,0,0,0,0,0,0,0,0,0,0,0,0,0,0,0,0,0,0,0,0,0,0,0,0,0,0,0,0,0,1,1] [0,0,0,0,0,0,0,0,0,0,0,0,0,0,0,0,0,0,0,0,0,0,0,0,0,0,0,0,0,0,0,0,0,0,0,0,0,0,0,0,1,1] [[(7000,.box 94 (Es m)),(7001,TP 90 Slot.kv Box.av m.on),(7002,TP 91 Ks Box.av m.quay),(7003,TP 92 Ks I64 m.open_),(1076,.box 52 [.ptr 7000 0])],((1079,.box 151 [.fn 123 (Eu x m),I64 310,.fn 123 [.dptr [BL (!((decide (0 < c))==(decide (x.Kind=1))))]],I64 311,.fn 73 (Ev x),I64 312])::[(7000,.box 94 (Es m)),(7001,TP 90 Slot.kv Box.av m.on),(7002,TP 91 Ks Box.av m.quay),(7003,TP 92 Ks I64 m.open_),(1076,.box 52 [.ptr 7000 0])])] J1 (by kernel_rfl) rfl rfl ?_
 refine Gc (u:=.dptr ((Move.cs x).drop 1)) O O ⟨Gf (Ga G59 O O O) O,ø⟩ (Gc (u:=I64 x.Box) O O ⟨Gf (Gg Gb O O O) O,ø⟩ (Gc (u:=BL (decide (x.Box=0))) O O ⟨Gf (Qg O O O) O,ø⟩ (Gc (u:=BL (decide (x.Box=0))) O O ⟨Gf (G5 O O) O,ø⟩ (Gc (u:=.opt (decide (x.Box=0)) (.dptr ((Move.cs x).drop 2))) O O ⟨Hc [] O O O .sct ø (fun hc=>Ga Qx O O O) O,ø⟩ (Gc (u:=.opt (decide (x.Box=0)) (.agg (Slot.cs x.Slot))) O O ⟨Hc [(16,.dptr ((Move.cs x).drop 2))] O O O .sct ⟨.all id,ø⟩ (fun hc=>Gm J4 O O O) O,ø⟩ (Gc (u:=.opt (decide (x.Box=0)) (.agg [I64 0,I64 0,U8 0])) O O ⟨Hc [] O O O .sct ø (fun hc=>Hi (cs:=[I64 0,I64 0,U8 0]) [(0,1),(1,1),(2,1)] [I64 0,I64 0,U8 0] [E0,E0,.int .u8 0] H0b Ge8 (zzQ O) O O) O,ø⟩ (Gc (u:=.opt (decide (x.Box=0)) (BL (decide (x.Slot=(Slot.mk 0 0 0))))) O O ⟨Hc [(17,.agg (Slot.cs x.Slot)),(18,.agg [I64 0,I64 0,U8 0])] O O O .sct ⟨.all id,.all id,ø⟩ (fun hc=>Yad (vs:=[.int .i64 x.Slot.G3,.int .i64 x.Slot.Tier,.int .u8 x.Slot.Half]) (us:=[E0,E0,.int .u8 0]) 4 O (Y7d x.Slot (Slot.mk 0 0 0)) J4f Q12 O O O) O,ø⟩ (Gc (u:=BL ((decide (x.Box=0))&&(decide (x.Slot=(Slot.mk 0 0 0))))) O O ⟨Gf (Ri O O O O) O,ø⟩ (Gc (u:=BL ((decide (x.Box=0))&&(decide (x.Slot=(Slot.mk 0 0 0))))) O O ⟨Gf (G5 O O) O,ø⟩ (Gc (u:=.opt ((decide (x.Box=0))&&(decide (x.Slot=(Slot.mk 0 0 0)))) (.dptr [I64 x.G9])) O O ⟨Hc [] O O O .sct ø (fun hc=>Ga G2d O O O) O,ø⟩ (Gc (u:=.opt ((decide (x.Box=0))&&(decide (x.Slot=(Slot.mk 0 0 0)))) (I64 x.G9)) O O ⟨Hc [(22,.dptr [I64 x.G9])] O O O .sct ⟨.all id,ø⟩ (fun hc=>Gg Gb O O O) O,ø⟩ (Gc (u:=.opt ((decide (x.Box=0))&&(decide (x.Slot=(Slot.mk 0 0 0)))) (BL (decide (0≤x.G9)))) O O ⟨Hc [(23,I64 x.G9)] O O O .sct ⟨.all id,ø⟩ (fun hc=>H2c O O O) O,ø⟩ (Gc (u:=BL (((decide (x.Box=0))&&(decide (x.Slot=(Slot.mk 0 0 0))))&&(decide (0≤x.G9)))) O O ⟨Gf (Ri O O O O) O,ø⟩ ?_)))))))))))))
 refine Gc (u:=BL (((decide (x.Box=0))&&(decide (x.Slot=(Slot.mk 0 0 0))))&&(decide (0≤x.G9)))) O O ⟨Gf (G5 O O) O,ø⟩ (Gc (u:=.opt (((decide (x.Box=0))&&(decide (x.Slot=(Slot.mk 0 0 0))))&&(decide (0≤x.G9))) (.dptr [I64 x.G9])) O O ⟨Hc [] O O O .sct ø (fun hc=>Ga G2d O O O) O,ø⟩ (Gc (u:=.opt (((decide (x.Box=0))&&(decide (x.Slot=(Slot.mk 0 0 0))))&&(decide (0≤x.G9))) (I64 x.G9)) O O ⟨Hc [(27,.dptr [I64 x.G9])] O O O .sct ⟨.all id,ø⟩ (fun hc=>Gg Gb O O O) O,ø⟩ (Gc (u:=.opt (((decide (x.Box=0))&&(decide (x.Slot=(Slot.mk 0 0 0))))&&(decide (0≤x.G9))) (.ptr 7000 0)) O O ⟨Hc [] O O O .sct ø (fun hc=>J2 Jj O O O O) O,ø⟩ (Gc (u:=.opt (((decide (x.Box=0))&&(decide (x.Slot=(Slot.mk 0 0 0))))&&(decide (0≤x.G9))) (.ptr 7000 0)) O O ⟨Hc [(29,.ptr 7000 0)] O O O .sct ⟨.all id,ø⟩ (fun hc=>Z1 O O) O,ø⟩ (Gc (u:=.opt (((decide (x.Box=0))&&(decide (x.Slot=(Slot.mk 0 0 0))))&&(decide (0≤x.G9))) (.ptr 7000 0)) O O ⟨Hc [(30,.ptr 7000 0)] O O O .sct ⟨.all id,ø⟩ (fun hc=>J9 Yw O O) O,ø⟩ (Gc (u:=.opt (((decide (x.Box=0))&&(decide (x.Slot=(Slot.mk 0 0 0))))&&(decide (0≤x.G9))) (.ptr 7000 1)) O O ⟨Hc [(31,.ptr 7000 0)] O O O .sct ⟨.all id,ø⟩ (fun hc=>J9 Yd O O) O,ø⟩ (Gc (u:=.opt (((decide (x.Box=0))&&(decide (x.Slot=(Slot.mk 0 0 0))))&&(decide (0≤x.G9))) (E7 m.ship.Covers)) O O ⟨Hc [(32,.ptr 7000 1)] O O O .sct ⟨.all id,ø⟩ (fun hc=>J2 G02 O O O O) O,ø⟩ (Gc (u:=.opt (((decide (x.Box=0))&&(decide (x.Slot=(Slot.mk 0 0 0))))&&(decide (0≤x.G9))) (Em m.ship.Covers.length)) O O ⟨Hc [(33,E7 m.ship.Covers)] O O O .sct ⟨.all id,ø⟩ (fun hc=>Gf6 (f:=G9.av) (xs:=m.ship.Covers) Qr O O) O,ø⟩ (Gc (u:=.opt (((decide (x.Box=0))&&(decide (x.Slot=(Slot.mk 0 0 0))))&&(decide (0≤x.G9))) (BL (decide (x.G9 < (m.ship.Covers.length:Int))))) O O ⟨Hc [(28,I64 x.G9),(34,Em m.ship.Covers.length)] O O O .sct ⟨.all id,.all id,ø⟩ (fun hc=>Jn O O O) O,ø⟩ (Gc (u:=BL ((((decide (x.Box=0))&&(decide (x.Slot=(Slot.mk 0 0 0))))&&(decide (0≤x.G9)))&&(decide (x.G9 < (m.ship.Covers.length:Int))))) O O ⟨Gf (Ri O O O O) O,ø⟩ (Gc (u:=.agg [.fn 123 (Eu x m),I64 310]) O O ⟨Gf (Gu O (H40 ((((decide (x.Box=0))&&(decide (x.Slot=(Slot.mk 0 0 0))))&&(decide (0≤x.G9)))&&(decide (x.G9 < (m.ship.Covers.length:Int)))) 310 r5 z) H30 ⟨O,O,O,O,ø⟩) O,ø⟩ (Gc (u:=.ptr 7000 0) O O ⟨Gf (J2 Jj O O O O) O,ø⟩ (Gc (u:=.ptr 7000 0) O O ⟨Gf (Z1 O O) O,ø⟩ ?_)))))))))))))
 refine Gc (u:=.ptr 7000 15) O O ⟨Gf (J9 G93 O O) O,ø⟩ (Gc (u:=.mp 7003) O O ⟨Gf (J2 G7a O O O O) O,ø⟩ (Gc (u:=.dptr [I64 x.G9]) O O ⟨Gf (Ga G2d O O O) O,ø⟩ (Gc (u:=I64 x.G9) O O ⟨Gf (Gg Gb O O O) O,ø⟩ (Gc (u:=I64 c) O O ⟨Gf (((M8 a0) ▸ Jd2 (av:=I64) (m:=m.open_) (a:=x.G9) 0 E0 (fun _=>O) O (.own O) O J92 Gf8 H46 O)) O,ø⟩ (Gc (u:=BL (decide (0 < c))) O O ⟨Gf (Gd1 O O O) O,ø⟩ (Gc (u:=BL (decide (x.Kind=1))) O O ⟨Gf (Gg Qe O O O) O,ø⟩ (Gc (u:=BL (!((decide (0 < c))==(decide (x.Kind=1))))) O O ⟨Gf (Rff H85 O O O) O,ø⟩ (Gc (u:=.agg [.fn 123 [.dptr [BL (!((decide (0 < c))==(decide (x.Kind=1))))]],I64 311]) O O ⟨Gf (Gu O (H40 (!((decide (0 < c))==(decide (x.Kind=1)))) 311 r7 a1) H30 ⟨O,O,O,O,ø⟩) O,ø⟩ (Gc (u:=.fn 73 (Ev x)) O O ⟨Gf (G5 O O) O,ø⟩ (Gc (u:=.agg [.fn 73 (Ev x),I64 312]) O O ⟨Gf (Hi (cs:=[.fn 73 (Ev x),I64 312]) [(0,1),(1,1)] [.sc .nilFunc,I64 0] [.nilFunc,E0] G04 G2b (zzQ O) O O) O,ø⟩ (D_w (u:=.ms 1079 0 3 3) O O O O (Gf (Q3a 1079 (xs:=[.agg [.fn 123 (Eu x m),I64 310],.agg [.fn 123 [.dptr [BL (!((decide (0 < c))==(decide (x.Kind=1))))]],I64 311],.agg [.fn 73 (Ev x),I64 312]]) (cs:=[.fn 123 (Eu x m),I64 310,.fn 123 [.dptr [BL (!((decide (0 < c))==(decide (x.Kind=1))))]],I64 311,.fn 73 (Ev x),I64 312]) O ⟨O,O,O,ø⟩ O H08 H7a O O O O O) O) ?_)))))))))))
 refine Gc (u:=I64 d) O O ⟨Gf (G54 O (Qeb.down [J6.mk 123 (Eu x m) (Z8 ((((decide (x.Box=0))&&(decide (x.Slot=(Slot.mk 0 0 0))))&&(decide (0≤x.G9)))&&(decide (x.G9 < (m.ship.Covers.length:Int))))) 310 Gf9 O (fun q hq=>Gc6 ((((decide (x.Box=0))&&(decide (x.Slot=(Slot.mk 0 0 0))))&&(decide (0≤x.G9)))&&(decide (x.G9 < (m.ship.Covers.length:Int)))) q hq),
 J6.mk 123 [.dptr [BL (!((decide (0 < c))==(decide (x.Kind=1))))]] (Z8 (!((decide (0 < c))==(decide (x.Kind=1))))) 311 Gf9 rfl (fun q hq=>Gc6 (!((decide (0 < c))==(decide (x.Kind=1)))) q hq),
 J6.mk 73 [.dptr [BL (decide (x.Kind=1))],.dptr [.dptr (Ge.cs m)],Ef x] (G15 (decide (x.Kind=1)) m (Move.mk x.Kind x.Box x.Slot x.G9)) 312 Y23 rfl (fun q hq=>J97 (decide (x.Kind=1)) m (Move.mk x.Kind x.Box x.Slot x.G9) q hq)] d a2) Jaf ⟨.msL rfl rfl rfl ⟨.data O O,.data O O,.data O O,.data O O,.fnL ⟨.data O O,.ptrL rfl ⟨.ptrL rfl (dnQ 13 O O ⟨.mp rfl,.mp rfl,.mp rfl,.data O O,trivial⟩),trivial⟩,.data O O,trivial⟩,.data O O,trivial⟩,trivial⟩ rfl) rfl,trivial⟩ ?_ rfl
 refine Gc (u:=I64 d) O O ⟨Gf (G7 O O) O,ø⟩ (R4 (y (Js fun a3=>Jr fun i=>(JLm (I64 d) O (JLh (BL (decide (d≠0))) (G8e O O O) O (G6 (i (JCc O h (fun h hb=>?_) (fun h hb=>?_)))))))))
 ·
  refine Jr fun j=>(JLm (I64 d) O (JLm (I64 d) O (G6 (j (Gs ?_)))))
  obtain rfl:=M8 h
  exact⟨[I64 d],[(7000,.box 94 (Es m)),(7001,TP 90 Slot.kv Box.av m.on),(7002,TP 91 Ks Box.av m.quay),(7003,TP 92 Ks I64 m.open_)],⟨fbQ O (.sm O O),fmQ O,fmQ O,fmQ O,ø⟩,rfl,⟨⟨_,rfl,.conv (.same rfl)⟩,ø⟩,rfl,rfl⟩
 ·
  refine Gk (a3 ?_)
  obtain⟨k,g,h⟩:=Rc h
  refine Qk (fun b:Ge=>k b=some r) (fun b=>[]) (fun b=>[(7000,.box 94 (Ew b)),(7001,TP 90 Slot.kv Box.av b.on),(7002,TP 91 Ks Box.av b.quay),(7003,TP 92 Ks I64 b.open_),(1076,.box 52 [.ptr 7000 0]),(1079,.box 151 [.fn 123 (Eu x m),I64 310,.fn 123 [.dptr [BL (!((decide (0 < c))==(decide (x.Kind=1))))]],I64 311,.fn 73 (Ev x),I64 312])]) (fun Kj12 ej12=>?_) ?_
  ·
   refine Jr fun l=>(JLh (BL (decide (x.Kind=1))) (Gg Qe O O O) O (G6 (l (JCc O h (fun h hb=>?_) (fun h hb=>?_)))))
   ·
    refine Qn (l':=[(2,.ptr 1076 0),(3,Ef x)]) (L':=[(7000,.box 94 (Es m)),(7001,TP 90 Slot.kv Box.av m.on),(7002,TP 91 Ks Box.av m.quay),(7003,TP 92 Ks I64 m.open_),(1076,.box 52 [.ptr 7000 0]),(1079,.box 151 [.fn 123 (Eu x m),I64 310,.fn 123 [.dptr [BL (!((decide (0 < c))==(decide (x.Kind=1))))]],I64 311,.fn 73 (Ev x),I64 312])]) ⟨(.sm O O),⟨fbQ O (.sm O O),fmQ O,fmQ O,fmQ O,fbQ O ⟨.same rfl,ø⟩,fbQ O (.sm O O),ø⟩,rfl⟩ ?_
    obtain⟨a4,n,h⟩:=Gd h
    obtain⟨e,o,h⟩:=Ht h
    refine Jm [8] [0,0,0,0,0,0,0,0,0] [0,0,0,0,0,0,0,0,0] [[(7000,.box 94 (Es m)),(7001,TP 90 Slot.kv Box.av m.on),(7002,TP 91 Ks Box.av m.quay),(7003,TP 92 Ks I64 m.open_),(1076,.box 52 [.ptr 7000 0]),(1079,.box 151 [.fn 123 (Eu x m),I64 310,.fn 123 [.dptr [BL (!((decide (0 < c))==(decide (x.Kind=1))))]],I64 311,.fn 73 (Ev x),I64 312])],((7003,TP 92 Ks I64 (Gw.put m.open_ x.G9 e))::[(7000,.box 94 (Es m)),(7001,TP 90 Slot.kv Box.av m.on),(7002,TP 91 Ks Box.av m.quay),(7003,TP 92 Ks I64 m.open_),(1076,.box 52 [.ptr 7000 0]),(1079,.box 151 [.fn 123 (Eu x m),I64 310,.fn 123 [.dptr [BL (!((decide (0 < c))==(decide (x.Kind=1))))]],I64 311,.fn 73 (Ev x),I64 312])])] J1 (by kernel_rfl) rfl rfl ?_
    refine Gc (u:=.ptr 7000 0) O O ⟨Gf (J2 Jj O O O O) O,ø⟩ (Gc (u:=.ptr 7000 0) O O ⟨Gf (Z1 O O) O,ø⟩ (Gc (u:=.ptr 7000 15) O O ⟨Gf (J9 G93 O O) O,ø⟩ (Gc (u:=.mp 7003) O O ⟨Gf (J2 G7a O O O O) O,ø⟩ (Gc (u:=.dptr [I64 x.G9]) O O ⟨Gf (Ga G2d O O O) O,ø⟩ (Gc (u:=I64 x.G9) O O ⟨Gf (Gg Gb O O O) O,ø⟩ (Gc (u:=I64 a4) O O ⟨Gf (((M8 n) ▸ Jd2 (av:=I64) (m:=m.open_) (a:=x.G9) 0 E0 (fun _=>O) O (.own O) O J92 Gf8 H46 O)) O,ø⟩ (Gc (u:=I64 e) O O ⟨Gf (J3 o O O O) O,ø⟩ (H22 (u:=.junk) O O O O (Gf (H24 (m:=m.open_) (a:=x.G9) (v:=e) (fun _=>O) O O O O O O J92 Gf8) O) (R4 ?_)))))))))
    exact ej12 _ _ (Ge.mk m.ship m.on m.quay (Gw.put m.open_ x.G9 e) m.lifts) h ⟨ø,⟨fbQ O (.sm O O),fmQ O,fmQ O,fmQ O,fbQ O ⟨.same rfl,ø⟩,fbQ O (.sm O O),ø⟩,rfl⟩
   ·
    refine Qn (l':=[(2,.ptr 1076 0),(3,Ef x)]) (L':=[(7000,.box 94 (Es m)),(7001,TP 90 Slot.kv Box.av m.on),(7002,TP 91 Ks Box.av m.quay),(7003,TP 92 Ks I64 m.open_),(1076,.box 52 [.ptr 7000 0]),(1079,.box 151 [.fn 123 (Eu x m),I64 310,.fn 123 [.dptr [BL (!((decide (0 < c))==(decide (x.Kind=1))))]],I64 311,.fn 73 (Ev x),I64 312])]) ⟨(.sm O O),⟨fbQ O (.sm O O),fmQ O,fmQ O,fmQ O,fbQ O ⟨.same rfl,ø⟩,fbQ O (.sm O O),ø⟩,rfl⟩ ?_
    refine Jm [6] [0,0,0,0,0,0,0] [0,0,0,0,0,0,0] [[(7000,.box 94 (Es m)),(7001,TP 90 Slot.kv Box.av m.on),(7002,TP 91 Ks Box.av m.quay),(7003,TP 92 Ks I64 m.open_),(1076,.box 52 [.ptr 7000 0]),(1079,.box 151 [.fn 123 (Eu x m),I64 310,.fn 123 [.dptr [BL (!((decide (0 < c))==(decide (x.Kind=1))))]],I64 311,.fn 73 (Ev x),I64 312])],((7003,TP 92 Ks I64 (Gw.del m.open_ x.G9))::[(7000,.box 94 (Es m)),(7001,TP 90 Slot.kv Box.av m.on),(7002,TP 91 Ks Box.av m.quay),(7003,TP 92 Ks I64 m.open_),(1076,.box 52 [.ptr 7000 0]),(1079,.box 151 [.fn 123 (Eu x m),I64 310,.fn 123 [.dptr [BL (!((decide (0 < c))==(decide (x.Kind=1))))]],I64 311,.fn 73 (Ev x),I64 312])])] J1 (by kernel_rfl) rfl rfl ?_
    refine Gc (u:=.ptr 7000 0) O O ⟨Gf (J2 Jj O O O O) O,ø⟩ (Gc (u:=.ptr 7000 0) O O ⟨Gf (Z1 O O) O,ø⟩ (Gc (u:=.ptr 7000 15) O O ⟨Gf (J9 G93 O O) O,ø⟩ (Gc (u:=.mp 7003) O O ⟨Gf (J2 G7a O O O O) O,ø⟩ (Gc (u:=.dptr [I64 x.G9]) O O ⟨Gf (Ga G2d O O O) O,ø⟩ (Gc (u:=I64 x.G9) O O ⟨Gf (Gg Gb O O O) O,ø⟩ (H22 (u:=.tup []) O O O O (Gf (J2f (m:=m.open_) (a:=x.G9) (fun _=>O) O O O O J92 Gf8) O) (R4 (ej12 _ _ (Ge.mk m.ship m.on m.quay (Gw.del m.open_ x.G9) m.lifts) h ⟨ø,⟨fbQ O (.sm O O),fmQ O,fmQ O,fmQ O,fbQ O ⟨.same rfl,ø⟩,fbQ O (.sm O O),ø⟩,rfl⟩))))))))
  ·intro b h
   replace h:=app1 g h
   refine Jr fun p=>(JLm (I64 0) O (G6 (p (Gs ?_))))
   obtain rfl:=M8 h
   exact⟨[I64 0],[(7000,.box 94 (Ew b)),(7001,TP 90 Slot.kv Box.av b.on),(7002,TP 91 Ks Box.av b.quay),(7003,TP 92 Ks I64 b.open_)],⟨fbQ O (.sm O O),fmQ O,fmQ O,fmQ O,ø⟩,rfl,⟨⟨_,rfl,.conv (.same rfl)⟩,ø⟩,rfl,rfl⟩

def G4e (y:Slot) (a:Move):Option Bool:=
 bnd (H01 y a.Slot) fun b=>
 some b
theorem J96 (y:Slot) (a:Move) (r:Bool) (h:G4e y a=some r):Pure En 79 [.agg [I64 y.G3,I64 y.Tier,U8 y.Half],Ef a] (·=BL r):=by
 unfold G4e at h
 refine Gz [.tmp 3] Tryz.func79 O O (Jr fun c=>(JLh (.ptr 1152 0) (Q6 (cs:=[I64 y.G3,I64 y.Tier,U8 y.Half]) 1152 O O O O O) O (JLm (BL false) O (G6 (c (Gr [(1,Ef a),(2,.dptr [I64 y.G3,I64 y.Tier,U8 y.Half])] [] 1152 rfl rfl rfl ø rfl (by exact⟨.conv (.same rfl),.ptr,ø⟩) (Jr fun d=>(JLh (.agg [I64 y.G3,I64 y.Tier,U8 y.Half]) (Gm J4 O O O) O (JLh (.dptr ((Move.cs a).drop 2)) (Ga Qx O O O) O (JLh (.agg (Slot.cs a.Slot)) (Gm J4 O O O) O ?_))))))))))
 obtain⟨b,e,h⟩:=Gd h
 refine JLh (BL b) (Gu O (Ja5 y a.Slot b e) Qab ⟨O,O,O,O,ø⟩) O (JLm (BL b) O (G6 (d (Gs (fin1 BL h)))))

def G87 (a:Ge) (b:Move):Option Bool:=
 bnd (G07 a (fun z0=>G4e z0 b)) fun c=>
 some (!c)
theorem Jfe (d:Ge) (a:Move) (r:Bool) (h:G87 d a=some r):Pure En 78 [.dptr [.dptr (Ge.cs d)],Ef a] (·=BL r):=by
 unfold G87 at h
 refine Gz [.tmp 2] Tryz.func78 O O (Jr fun e=>(JLm (BL false) O (G6 (e (Jr fun f=>(JLh (Eg d) (Gg Jj O O O) O (JLh (.fn 79 [.dptr (Move.cs a)]) (Q4 (cs:=[.dptr (Move.cs a)]) O O) O ?_)))))))
 obtain⟨c,g,h⟩:=Gd h
 refine JLh (BL c) (Gu O (H71.down d (fun z0=>G4e z0 a) 79 [.dptr (Move.cs a)] Y20 O (fun z0 q hq=>J96 z0 a q hq) c g) Jb0 ⟨O,O,O,O,ø⟩) O (JLh (BL (!c)) (Yc (b:=c) O O) O (JLm (BL (!c)) O (G6 (f (Gs (fin1 BL h))))))

def G86 (a:Ge) (b:Move):Option Bool:=
 Qm a.ship.Columns b.Slot.G3 fun c=>
 bnd (bif (!c.Deck) then G6d a b.Slot else some default) fun d=>
 some (c.Deck||(!d))
theorem Jfd (a:Ge) (c:Move) (r:Bool) (h:G86 a c=some r):Pure En 80 [.dptr [.dptr (Ge.cs a)],Ef c] (·=BL r):=by
 unfold G86 at h
 refine Gz [.tmp 2] Tryz.func80 O O (Jr fun g=>(JLm (BL false) O (G6 (g (Js fun i=>?_)))))
 obtain⟨m,d,j,k,h⟩:=Rw h
 obtain⟨e,l,h⟩:=Gd h
 refine JC_d0 J1 (by kernel_rfl) (Dq (Eg a) (Gg Jj O O O) O (Dq (Eg a) (G83 O O) O (Dq (Eg a) (Ga Yw O O O) O (Dq (Eg a) (Ga Jc O O O) O (Dq (E3 a.ship.Columns) (Gg Jv O O O) O (Dq (.dptr ((Move.cs c).drop 2)) (Ga Qx O O O) O (Dq (.dptr ((Move.cs c).drop 2)) (Ga Jb O O O) O (Dq (I64 c.Slot.G3) (Gg Gb O O O) O (Dq (Ej d) (Hb (f:=G3.av) (xs:=a.ship.Columns) (y:=d) O O O Hz k j) O (Dq (.dptr ((G3.cs d).drop 2)) (Ga Yu O O O) O (Dq (BL d.Deck) (Gg Qe O O O) O (Dq (BL d.Deck) (G5 O O) O (Do (Eg a) [] O .scf ø (fun hc=>Gg Jj O O O) O ?_)))))))))))))
 refine Do (.dptr ((Move.cs c).drop 2)) [] O .scf ø (fun hc=>Ga Qx O O O) O (Do (.agg (Slot.cs c.Slot)) [16] O .scf ⟨Ua,ø⟩ (fun hc=>Gm J4 O O O) O (Do (BL e) [15,17] O .scf ⟨Ua,Ua,ø⟩ (fun hc=>Gu (args:=[.dptr (Ge.cs a),.agg (Slot.cs c.Slot)]) O (Hfc a c.Slot e (H2 hc l)) Qaa ⟨O,O,O,O,ø⟩) O (Do (BL (!e)) [18] O .scf ⟨Ua,ø⟩ (fun hc=>Yc (b:=e) O O) O (Dq (BL (d.Deck||(!e))) (G82 O O O O) O (Dq (BL (d.Deck||(!e))) (G7 O O) O (Dnil (i (Gs (fin1 BL h)))))))))

def Ge0 (m:Ge) (x:Move):Option (Int×Ge):=
 bnd (some (Gw.get m.on x.Slot (Box.mk 0 ByteArray.empty 0 false 0 0 0 0 false))) fun a=>
 bnd (H65 (decide (x.G9=0)) 310) fun d=>
 bnd (H65 ((Gw.has m.on x.Slot)&&(decide (a.ID=x.Box))) 313) fun e=>
 bnd (H4e [(Z8 (decide (x.G9=0)),310),
  (Z8 ((Gw.has m.on x.Slot)&&(decide (a.ID=x.Box))),313),
  (G87 m (Move.mk x.Kind x.Box x.Slot x.G9),314),
  (G86 m (Move.mk x.Kind x.Box x.Slot x.G9),315)]) fun b=>
 bif decide (b≠0) then
 (some (b,m))
 else
 (chk (m.lifts+1) fun c=>
  some (0,(Ge.mk m.ship (Gw.del m.on x.Slot) (Gw.put m.quay a.ID a) m.open_ c)))
abbrev Ex (m:Ge):List AV:=[E3 m.ship.Columns,E7 m.ship.Covers,I64 m.ship.Light.Kilos,I64 m.ship.Light.X,I64 m.ship.Light.Y,I64 m.ship.Light.Z,E4 m.ship.Rows,E5 m.ship.Frames,E6 m.ship.Tanks,I64 m.ship.G8.Tolerance,I64 m.ship.G8.Trim,I64 m.ship.G8.List_,I64 m.ship.G8.Stability,.mp 7001,.mp 7002,.mp 7003,I64 m.lifts]
theorem Q7b (m:Ge) (x:Move) (r:Int×Ge) (h:Ge0 m x=some r):Hx En 42 [.ptr 7000 0,.agg (Move.cs x)] [(7000,.box 94 [E3 m.ship.Columns,E7 m.ship.Covers,I64 m.ship.Light.Kilos,I64 m.ship.Light.X,I64 m.ship.Light.Y,I64 m.ship.Light.Z,E4 m.ship.Rows,E5 m.ship.Frames,E6 m.ship.Tanks,I64 m.ship.G8.Tolerance,I64 m.ship.G8.Trim,I64 m.ship.G8.List_,I64 m.ship.G8.Stability,.mp 7001,.mp 7002,.mp 7003,I64 m.lifts]),(7001,TP 90 Slot.kv Box.av m.on),(7002,TP 91 Ks Box.av m.quay),(7003,TP 92 Ks I64 m.open_)] (fun av L'=>av=I64 r.1∧L'=[(7000,.box 94 [E3 r.2.ship.Columns,E7 r.2.ship.Covers,I64 r.2.ship.Light.Kilos,I64 r.2.ship.Light.X,I64 r.2.ship.Light.Y,I64 r.2.ship.Light.Z,E4 r.2.ship.Rows,E5 r.2.ship.Frames,E6 r.2.ship.Tanks,I64 r.2.ship.G8.Tolerance,I64 r.2.ship.G8.Trim,I64 r.2.ship.G8.List_,I64 r.2.ship.G8.Stability,.mp 7001,.mp 7002,.mp 7003,I64 r.2.lifts]),(7001,TP 90 Slot.kv Box.av r.2.on),(7002,TP 91 Ks Box.av r.2.quay),(7003,TP 92 Ks I64 r.2.open_)]):=by
 unfold Ge0 at h
 refine Ji [7000,7001,7002,7003] [.tmp 4] Tryz.func42 O O (G0c O) (Jr fun n=>(JLh (.ptr 1080 0) (Q6 (cs:=[.ptr 7000 0]) 1080 O O O O O) O (JLh (.ptr 1081 0) (Q6 (cs:=[U8 x.Kind,I64 x.Box,I64 x.Slot.G3,I64 x.Slot.Tier,U8 x.Slot.Half,I64 x.G9]) 1081 O O O O O) O (JLm (I64 0) O (G6 (n ?_))))))
 refine Gr [(2,.ptr 1080 0),(3,Ef x)] [(7000,.box 94 (Ex m)),(7001,TP 90 Slot.kv Box.av m.on),(7002,TP 91 Ks Box.av m.quay),(7003,TP 92 Ks I64 m.open_),(1080,.box 52 [.ptr 7000 0])] 1081 rfl rfl rfl ⟨⟨_,rfl,.boxEq rfl rfl⟩,fmQ O,fmQ O,fmQ O,⟨_,rfl,.boxEq rfl rfl⟩,ø⟩ rfl (by exact⟨.conv (.same rfl),.ptr,ø⟩) ?_
 refine Js fun o=>?_
 refine Qn (l':=[(2,.ptr 1080 0),(3,Ef x)]) (L':=[(7000,.box 94 (Ex m)),(7001,TP 90 Slot.kv Box.av m.on),(7002,TP 91 Ks Box.av m.quay),(7003,TP 92 Ks I64 m.open_),(1080,.box 52 [.ptr 7000 0])]) ⟨(.sm O O),⟨fbQ O (.sm O O),fmQ O,fmQ O,fmQ O,fbQ O ⟨.same rfl,ø⟩,ø⟩,rfl⟩ ?_
 obtain⟨b,e,h⟩:=Gd h
 refine Jm [10,11] [0,0,0,0,0,0,0,0,0,0,0,0,2] [1,1,1,1,1,1,1,1,1,2,0,0,2] [[(7000,.box 94 (Ex m)),(7001,TP 90 Slot.kv Box.av m.on),(7002,TP 91 Ks Box.av m.quay),(7003,TP 92 Ks I64 m.open_),(1080,.box 52 [.ptr 7000 0])],((1082,.box 103 [.junk,.junk,.junk,.junk,.junk,.junk,.junk,.junk,.junk])::[(7000,.box 94 (Ex m)),(7001,TP 90 Slot.kv Box.av m.on),(7002,TP 91 Ks Box.av m.quay),(7003,TP 92 Ks I64 m.open_),(1080,.box 52 [.ptr 7000 0])]),((1082,.box 103 (Box.cs b))::((1082,.box 103 [.junk,.junk,.junk,.junk,.junk,.junk,.junk,.junk,.junk])::[(7000,.box 94 (Ex m)),(7001,TP 90 Slot.kv Box.av m.on),(7002,TP 91 Ks Box.av m.quay),(7003,TP 92 Ks I64 m.open_),(1080,.box 52 [.ptr 7000 0])]))] J1 (by kernel_rfl) rfl rfl ?_
 refine Gc (u:=.ptr 7000 0) O O ⟨Gf (J2 Jj O O O O) O,Gf (J2 Jj O O O O) O,ø⟩ (Gc (u:=.ptr 7000 0) O O ⟨Gf (Z1 O O) O,Gf (Z1 O O) O,ø⟩ (Gc (u:=.ptr 7000 13) O O ⟨Gf (J9 Yv O O) O,Gf (J9 Yv O O) O,ø⟩ (Gc (u:=.mp 7001) O O ⟨Gf (J2 Z2 O O O O) O,Gf (J2 Z2 O O O O) O,ø⟩ (Gc (u:=.dptr ((Move.cs x).drop 2)) O O ⟨Gf (Ga Qx O O O) O,Gf (Ga Qx O O O) O,ø⟩ (Gc (u:=.agg (Slot.cs x.Slot)) O O ⟨Gf (Gm J4 O O O) O,Gf (Gm J4 O O O) O,ø⟩ (Gc (u:=.tup [.agg (Box.cs b),BL (Gw.has m.on x.Slot)]) O O ⟨Gf (((M8 e) ▸ J30 (av:=Box.av) (m:=m.on) (a:=x.Slot) (Box.mk 0 ByteArray.empty 0 false 0 0 0 0 false) (.agg #[E0,.string ByteArray.empty,.int .u8 0,.bool false,E0,E0,E0,.int .u8 0,.bool false]) (fun _=>O) O (.own O) O R98 G91 J75 O)) O,Gf (((M8 e) ▸ J30 (av:=Box.av) (m:=m.on) (a:=x.Slot) (Box.mk 0 ByteArray.empty 0 false 0 0 0 0 false) (.agg #[E0,.string ByteArray.empty,.int .u8 0,.bool false,E0,E0,E0,.int .u8 0,.bool false]) (fun _=>O) O (.own O) O R98 G91 J75 O)) O,ø⟩ (Gc (u:=.tup [.agg (Box.cs b),BL (Gw.has m.on x.Slot)]) O O ⟨Gf (G5 O O) O,Gf (G5 O O) O,ø⟩ (Gc (u:=.agg (Box.cs b)) O O ⟨Gf (Gv O O O) O,Gf (Gv O O O) O,ø⟩ (Gc (u:=BL (Gw.has m.on x.Slot)) O O ⟨Gf (Gv O O O) O,Gf (Gv O O O) O,Gf (Gv O O O) O,ø⟩ (D_w (u:=.ptr 1082 0) O O O O (Gf (Hj 1082 9 R0 O O) O) (H22 (u:=.junk) O O O O (Gf (H7 (u:=.agg (Box.cs b)) (ds:=(Box.cs b)) Rs O O O O O O O O) O) (Gc (u:=BL (Gw.has m.on x.Slot)) O O ⟨Gf (G7 O O) O,ø⟩ (R4 ?_)))))))))))))
 refine o ?_
 refine fzQ [(2,.ptr 1080 0),(3,Ef x),(5,Ei b),(6,BL (Gw.has m.on x.Slot))] [(7000,.box 94 (Ex m)),(7001,TP 90 Slot.kv Box.av m.on),(7002,TP 91 Ks Box.av m.quay),(7003,TP 92 Ks I64 m.open_),(1080,.box 52 [.ptr 7000 0])] 1082 rfl rfl rfl ⟨⟨_,rfl,.boxEq rfl rfl⟩,fmQ O,fmQ O,fmQ O,⟨_,rfl,.boxEq rfl rfl⟩,ø⟩ rfl ?_
 refine Jr fun p=>(JLh (.dptr [I64 x.G9]) (Ga G2d O O O) O (JLh (I64 x.G9) (Gg Gb O O O) O (JLh (BL (decide (x.G9=0))) (Qg O O O) O ?_)))
 obtain⟨r5,s,h⟩:=Gd h
 refine JLh (.agg [.fn 123 [.dptr [BL (decide (x.G9=0))]],I64 310]) (Gu O (H40 (decide (x.G9=0)) 310 r5 s) H30 ⟨O,O,O,O,ø⟩) O (JLm (BL (Gw.has m.on x.Slot)) O (JLm (BL (Gw.has m.on x.Slot)) O (JLo (Ei b) [] O .sct ø (fun hc=>Ga Qu O O O) O (JLo (I64 b.ID) [24] O .sct ⟨Ua,ø⟩ (fun hc=>Gg Gb O O O) O (JLo (.dptr ((Move.cs x).drop 1)) [] O .sct ø (fun hc=>Ga G59 O O O) O (JLo (I64 x.Box) [26] O .sct ⟨Ua,ø⟩ (fun hc=>Gg Gb O O O) O (JLo (BL (decide (b.ID=x.Box))) [25,27] O .sct ⟨Ua,Ua,ø⟩ (fun hc=>Qg O O O) O (JLh (BL ((Gw.has m.on x.Slot)&&(decide (b.ID=x.Box)))) (Ri O O O O) O ?_))))))))
 obtain⟨r6,t,h⟩:=Gd h
 refine JLh (.agg [.fn 123 [.dptr [BL ((Gw.has m.on x.Slot)&&(decide (b.ID=x.Box)))]],I64 313]) (Gu O (H40 ((Gw.has m.on x.Slot)&&(decide (b.ID=x.Box))) 313 r6 t) H30 ⟨O,O,O,O,ø⟩) O (JLh (.fn 78 [.ptr 1080 0,Ef x]) (Q4 (cs:=[.ptr 1080 0,Ef x]) O O) O (JLh (.agg [.fn 78 [.ptr 1080 0,Ef x],I64 314]) (Hi (cs:=[.fn 78 [.ptr 1080 0,Ef x],I64 314]) [(0,1),(1,1)] [.sc .nilFunc,I64 0] [.nilFunc,E0] G04 G2b (zzQ O) O O) O (JLh (.fn 80 [.ptr 1080 0,Ef x]) (Q4 (cs:=[.ptr 1080 0,Ef x]) O O) O (JLh (.agg [.fn 80 [.ptr 1080 0,Ef x],I64 315]) (Hi (cs:=[.fn 80 [.ptr 1080 0,Ef x],I64 315]) [(0,1),(1,1)] [.sc .nilFunc,I64 0] [.nilFunc,E0] G04 G2b (zzQ O) O O) O (JLh (.ms 1083 0 4 4) (Q3a 1083 (xs:=[.agg [.fn 123 [.dptr [BL (decide (x.G9=0))]],I64 310],.agg [.fn 123 [.dptr [BL ((Gw.has m.on x.Slot)&&(decide (b.ID=x.Box)))]],I64 313],.agg [.fn 78 [.ptr 1080 0,Ef x],I64 314],.agg [.fn 80 [.ptr 1080 0,Ef x],I64 315]]) (cs:=[.fn 123 [.dptr [BL (decide (x.G9=0))]],I64 310,.fn 123 [.dptr [BL ((Gw.has m.on x.Slot)&&(decide (b.ID=x.Box)))]],I64 313,.fn 78 [.ptr 1080 0,Ef x],I64 314,.fn 80 [.ptr 1080 0,Ef x],I64 315]) O ⟨O,O,O,O,ø⟩ O H08 H7a O O O O O) O ?_)))))
 obtain⟨c,w,h⟩:=Gd h
 refine JLg (I64 c) (G54 O (Qeb.down [J6.mk 123 [.dptr [BL (decide (x.G9=0))]] (Z8 (decide (x.G9=0))) 310 Gf9 O (fun q hq=>Gc6 (decide (x.G9=0)) q hq),
 J6.mk 123 [.dptr [BL ((Gw.has m.on x.Slot)&&(decide (b.ID=x.Box)))]] (Z8 ((Gw.has m.on x.Slot)&&(decide (b.ID=x.Box)))) 313 Gf9 rfl (fun q hq=>Gc6 ((Gw.has m.on x.Slot)&&(decide (b.ID=x.Box))) q hq),
 J6.mk 78 [.dptr [.dptr (Ge.cs m)],Ef x] (G87 m (Move.mk x.Kind x.Box x.Slot x.G9)) 314 Y21 rfl (fun q hq=>Jfe m (Move.mk x.Kind x.Box x.Slot x.G9) q hq),
 J6.mk 80 [.dptr [.dptr (Ge.cs m)],Ef x] (G86 m (Move.mk x.Kind x.Box x.Slot x.G9)) 315 Y1f rfl (fun q hq=>Jfd m (Move.mk x.Kind x.Box x.Slot x.G9) q hq)] c w) Jaf ⟨.msL rfl rfl rfl ⟨.data O O,.data O O,.data O O,.data O O,.fnL ⟨.ptrL rfl ⟨.ptrL rfl (dnQ 13 O O ⟨.mp rfl,.mp rfl,.mp rfl,.data O O,trivial⟩),trivial⟩,.data O O,trivial⟩,.data O O,.fnL ⟨.ptrL rfl ⟨.ptrL rfl (dnQ 13 O O ⟨.mp rfl,.mp rfl,.mp rfl,.data O O,trivial⟩),trivial⟩,.data O O,trivial⟩,.data O O,trivial⟩,trivial⟩ rfl) ?_ rfl rfl rfl
 refine JLm (I64 c) O (G6 (p (Js fun y=>Jr fun z=>(JLm (I64 c) O (JLh (BL (decide (c≠0))) (G8e O O O) O (G6 (z (JCc O h (fun h hb=>?_) (fun h hb=>?_)))))))))
 ·
  refine Jr fun f=>(JLm (I64 c) O (JLm (I64 c) O (G6 (f (Gs ?_)))))
  obtain rfl:=M8 h
  exact⟨[I64 c],[(7000,.box 94 (Ex m)),(7001,TP 90 Slot.kv Box.av m.on),(7002,TP 91 Ks Box.av m.quay),(7003,TP 92 Ks I64 m.open_)],⟨fbQ O (.sm O O),fmQ O,fmQ O,fmQ O,ø⟩,rfl,⟨⟨_,rfl,.conv (.same rfl)⟩,ø⟩,rfl,rfl⟩
 ·
  refine Gk (y (Js fun g=>?_))
  refine Qn (l':=[(2,.ptr 1080 0),(3,Ef x),(5,Ei b)]) (L':=[(7000,.box 94 (Ex m)),(7001,TP 90 Slot.kv Box.av m.on),(7002,TP 91 Ks Box.av m.quay),(7003,TP 92 Ks I64 m.open_),(1080,.box 52 [.ptr 7000 0]),(1083,.box 151 [.fn 123 [.dptr [BL (decide (x.G9=0))]],I64 310,.fn 123 [.dptr [BL ((Gw.has m.on x.Slot)&&(decide (b.ID=x.Box)))]],I64 313,.fn 78 [.ptr 1080 0,Ef x],I64 314,.fn 80 [.ptr 1080 0,Ef x],I64 315])]) ⟨(.sm O O),⟨fbQ O (.sm O O),fmQ O,fmQ O,fmQ O,fbQ O ⟨.same rfl,ø⟩,fbQ O (.sm O O),ø⟩,rfl⟩ ?_
  refine Jm [6] [0,0,0,0,0,0,0] [0,0,0,0,0,0,0] [[(7000,.box 94 (Ex m)),(7001,TP 90 Slot.kv Box.av m.on),(7002,TP 91 Ks Box.av m.quay),(7003,TP 92 Ks I64 m.open_),(1080,.box 52 [.ptr 7000 0]),(1083,.box 151 [.fn 123 [.dptr [BL (decide (x.G9=0))]],I64 310,.fn 123 [.dptr [BL ((Gw.has m.on x.Slot)&&(decide (b.ID=x.Box)))]],I64 313,.fn 78 [.ptr 1080 0,Ef x],I64 314,.fn 80 [.ptr 1080 0,Ef x],I64 315])],((7001,TP 90 Slot.kv Box.av (Gw.del m.on x.Slot))::[(7000,.box 94 (Ex m)),(7001,TP 90 Slot.kv Box.av m.on),(7002,TP 91 Ks Box.av m.quay),(7003,TP 92 Ks I64 m.open_),(1080,.box 52 [.ptr 7000 0]),(1083,.box 151 [.fn 123 [.dptr [BL (decide (x.G9=0))]],I64 310,.fn 123 [.dptr [BL ((Gw.has m.on x.Slot)&&(decide (b.ID=x.Box)))]],I64 313,.fn 78 [.ptr 1080 0,Ef x],I64 314,.fn 80 [.ptr 1080 0,Ef x],I64 315])])] J1 (by kernel_rfl) rfl rfl ?_
  refine Gc (u:=.ptr 7000 0) O O ⟨Gf (J2 Jj O O O O) O,ø⟩ (Gc (u:=.ptr 7000 0) O O ⟨Gf (Z1 O O) O,ø⟩ (Gc (u:=.ptr 7000 13) O O ⟨Gf (J9 Yv O O) O,ø⟩ (Gc (u:=.mp 7001) O O ⟨Gf (J2 Z2 O O O O) O,ø⟩ (Gc (u:=.dptr ((Move.cs x).drop 2)) O O ⟨Gf (Ga Qx O O O) O,ø⟩ (Gc (u:=.agg (Slot.cs x.Slot)) O O ⟨Gf (Gm J4 O O O) O,ø⟩ (H22 (u:=.tup []) O O O O (Gf (J2f (m:=m.on) (a:=x.Slot) (fun _=>O) O O O O R98 G91) O) (R4 (g (Js fun i=>?_)))))))))
  refine Qn (l':=[(2,.ptr 1080 0),(5,Ei b)]) (L':=[(7000,.box 94 (Ex m)),(7001,TP 90 Slot.kv Box.av (Gw.del m.on x.Slot)),(7002,TP 91 Ks Box.av m.quay),(7003,TP 92 Ks I64 m.open_),(1080,.box 52 [.ptr 7000 0]),(1083,.box 151 [.fn 123 [.dptr [BL (decide (x.G9=0))]],I64 310,.fn 123 [.dptr [BL ((Gw.has m.on x.Slot)&&(decide (b.ID=x.Box)))]],I64 313,.fn 78 [.ptr 1080 0,Ef x],I64 314,.fn 80 [.ptr 1080 0,Ef x],I64 315])]) ⟨(.sm O O),⟨fbQ O (.sm O O),fmQ O,fmQ O,fmQ O,fbQ O ⟨.same rfl,ø⟩,fbQ O (.sm O O),ø⟩,rfl⟩ ?_
  refine Jm [7] [0,0,0,0,0,0,0,0] [0,0,0,0,0,0,0,0] [[(7000,.box 94 (Ex m)),(7001,TP 90 Slot.kv Box.av (Gw.del m.on x.Slot)),(7002,TP 91 Ks Box.av m.quay),(7003,TP 92 Ks I64 m.open_),(1080,.box 52 [.ptr 7000 0]),(1083,.box 151 [.fn 123 [.dptr [BL (decide (x.G9=0))]],I64 310,.fn 123 [.dptr [BL ((Gw.has m.on x.Slot)&&(decide (b.ID=x.Box)))]],I64 313,.fn 78 [.ptr 1080 0,Ef x],I64 314,.fn 80 [.ptr 1080 0,Ef x],I64 315])],((7002,TP 91 Ks Box.av (Gw.put m.quay b.ID b))::[(7000,.box 94 (Ex m)),(7001,TP 90 Slot.kv Box.av (Gw.del m.on x.Slot)),(7002,TP 91 Ks Box.av m.quay),(7003,TP 92 Ks I64 m.open_),(1080,.box 52 [.ptr 7000 0]),(1083,.box 151 [.fn 123 [.dptr [BL (decide (x.G9=0))]],I64 310,.fn 123 [.dptr [BL ((Gw.has m.on x.Slot)&&(decide (b.ID=x.Box)))]],I64 313,.fn 78 [.ptr 1080 0,Ef x],I64 314,.fn 80 [.ptr 1080 0,Ef x],I64 315])])] J1 (by kernel_rfl) rfl rfl ?_
  refine Gc (u:=.ptr 7000 0) O O ⟨Gf (J2 Jj O O O O) O,ø⟩ (Gc (u:=.ptr 7000 0) O O ⟨Gf (Z1 O O) O,ø⟩ (Gc (u:=.ptr 7000 14) O O ⟨Gf (J9 G58 O O) O,ø⟩ (Gc (u:=.mp 7002) O O ⟨Gf (J2 G43 O O O O) O,ø⟩ (Gc (u:=Ei b) O O ⟨Gf (Ga Qu O O O) O,ø⟩ (Gc (u:=I64 b.ID) O O ⟨Gf (Gg Gb O O O) O,ø⟩ (Gc (u:=.agg (Box.cs b)) O O ⟨Gf (Gm Ra O O O) O,ø⟩ (H22 (u:=.junk) O O O O (Gf (H24 (m:=m.quay) (a:=b.ID) (v:=b) (fun _=>O) O O O O O O J92 H84) O) (R4 (i ?_)))))))))
  refine Jr fun j=>(JLh (.ptr 7000 0) (J2 Jj O O O O) O (JLh (.ptr 7000 0) (Z1 O O) O (JLh (.ptr 7000 16) (J9 Gd5 O O) O (JLh (I64 m.lifts) (J2 Gb O O O O) O ?_))))
  obtain⟨d,k,h⟩:=Ht h
  refine JLh (I64 d) (J3 k O O O) O (JLh (.ptr 7000 0) (Z1 O O) O (JLh (.ptr 7000 16) (J9 Gd5 O O) O (Hq (u:=.junk) (H7 (u:=I64 d) (ds:=[E3 m.ship.Columns,E7 m.ship.Covers,I64 m.ship.Light.Kilos,I64 m.ship.Light.X,I64 m.ship.Light.Y,I64 m.ship.Light.Z,E4 m.ship.Rows,E5 m.ship.Frames,E6 m.ship.Tanks,I64 m.ship.G8.Tolerance,I64 m.ship.G8.Trim,I64 m.ship.G8.List_,I64 m.ship.G8.Stability,.mp 7001,.mp 7002,.mp 7003,I64 d]) G63 O O O O O O O O) (G6 (j (Jr fun l=>(JLm (I64 0) O (G6 (l (Gs ?_))))))))))
  obtain rfl:=M8 h
  exact⟨[I64 0],[(7000,.box 94 [E3 m.ship.Columns,E7 m.ship.Covers,I64 m.ship.Light.Kilos,I64 m.ship.Light.X,I64 m.ship.Light.Y,I64 m.ship.Light.Z,E4 m.ship.Rows,E5 m.ship.Frames,E6 m.ship.Tanks,I64 m.ship.G8.Tolerance,I64 m.ship.G8.Trim,I64 m.ship.G8.List_,I64 m.ship.G8.Stability,.mp 7001,.mp 7002,.mp 7003,I64 d]),(7001,TP 90 Slot.kv Box.av (Gw.del m.on x.Slot)),(7002,TP 91 Ks Box.av (Gw.put m.quay b.ID b)),(7003,TP 92 Ks I64 m.open_)],⟨fbQ O (.sm O O),fmQ O,fmQ O,fmQ O,ø⟩,rfl,⟨⟨_,rfl,.conv (.same rfl)⟩,ø⟩,rfl,rfl⟩

def Gb9 (a:Ge) (b:Move) (c:Box):Option Bool:=
 bnd (G7f a.ship b.Slot c.Size) fun d=>
 some d
theorem Q36 (a:Ge) (b:Move) (c:Box) (r:Bool) (h:Gb9 a b c=some r):Pure En 82 [.dptr [.dptr (Ge.cs a)],Ef b,Ei c] (·=BL r):=by
 unfold Gb9 at h
 refine Gz [.tmp 3] Tryz.func82 O O (Jr fun e=>(JLm (BL false) O (G6 (e (Js fun f=>?_)))))
 obtain⟨d,g,h⟩:=Gd h
 refine JC_d0 J1 (by kernel_rfl) (Dq (Eg a) (Gg Jj O O O) O (Dq (Eg a) (G83 O O) O (Dq (Eg a) (Ga Yw O O O) O (Dq (.agg (Gj.cs a.ship)) (Gm J8 O O O) O (Dq (.dptr ((Move.cs b).drop 2)) (Ga Qx O O O) O (Dq (.agg (Slot.cs b.Slot)) (Gm J4 O O O) O (Dq (.dptr ((Box.cs c).drop 2)) (Ga G35 O O O) O (Dq (U8 c.Size) (Gg Hy O O O) O (Dq (BL d) (Gu (args:=[.agg (Gj.cs a.ship),.agg (Slot.cs b.Slot),U8 c.Size]) O (J6b a.ship b.Slot c.Size d g) Qae ⟨O,O,O,O,O,O,ø⟩) O (Dq (BL d) (G7 O O) O (Dnil (f (Gs (fin1 BL h))))))))))))))

def Gb8 (a:Ge) (b:Move):Option Bool:=
 bnd (G6d a b.Slot) fun c=>
 some (!c)
theorem Q35 (d:Ge) (a:Move) (r:Bool) (h:Gb8 d a=some r):Pure En 83 [.dptr [.dptr (Ge.cs d)],Ef a] (·=BL r):=by
 unfold Gb8 at h
 refine Gz [.tmp 2] Tryz.func83 O O (Jr fun e=>(JLm (BL false) O (G6 (e (Jr fun f=>(JLh (Eg d) (Gg Jj O O O) O (JLh (.dptr ((Move.cs a).drop 2)) (Ga Qx O O O) O (JLh (.agg (Slot.cs a.Slot)) (Gm J4 O O O) O ?_))))))))
 obtain⟨c,g,h⟩:=Gd h
 refine JLh (BL c) (Gu O (Hfc d a.Slot c g) Qaa ⟨O,O,O,O,ø⟩) O (JLh (BL (!c)) (Yc (b:=c) O O) O (JLm (BL (!c)) O (G6 (f (Gs (fin1 BL h))))))

def G6e (y:Slot) (a:Move):Option Bool:=
 bnd (H02 y a.Slot) fun b=>
 some b
theorem Jca (y:Slot) (a:Move) (r:Bool) (h:G6e y a=some r):Pure En 85 [.agg [I64 y.G3,I64 y.Tier,U8 y.Half],Ef a] (·=BL r):=by
 unfold G6e at h
 refine Gz [.tmp 3] Tryz.func85 O O (Jr fun c=>(JLh (.ptr 1154 0) (Q6 (cs:=[I64 y.G3,I64 y.Tier,U8 y.Half]) 1154 O O O O O) O (JLm (BL false) O (G6 (c (Gr [(1,Ef a),(2,.dptr [I64 y.G3,I64 y.Tier,U8 y.Half])] [] 1154 rfl rfl rfl ø rfl (by exact⟨.conv (.same rfl),.ptr,ø⟩) (Jr fun d=>(JLh (.agg [I64 y.G3,I64 y.Tier,U8 y.Half]) (Gm J4 O O O) O (JLh (.dptr ((Move.cs a).drop 2)) (Ga Qx O O O) O (JLh (.agg (Slot.cs a.Slot)) (Gm J4 O O O) O ?_))))))))))
 obtain⟨b,e,h⟩:=Gd h
 refine JLh (BL b) (Gu O (Ja6 y a.Slot b e) Qac ⟨O,O,O,O,ø⟩) O (JLm (BL b) O (G6 (d (Gs (fin1 BL h)))))

def Gb7 (a:Ge) (b:Move):Option Bool:=
 bnd (G07 a (fun z0=>G6e z0 b)) fun c=>
 some (!c)
theorem Q34 (d:Ge) (a:Move) (r:Bool) (h:Gb7 d a=some r):Pure En 84 [.dptr [.dptr (Ge.cs d)],Ef a] (·=BL r):=by
 unfold Gb7 at h
 refine Gz [.tmp 2] Tryz.func84 O O (Jr fun e=>(JLm (BL false) O (G6 (e (Jr fun f=>(JLh (Eg d) (Gg Jj O O O) O (JLh (.fn 85 [.dptr (Move.cs a)]) (Q4 (cs:=[.dptr (Move.cs a)]) O O) O ?_)))))))
 obtain⟨c,g,h⟩:=Gd h
 refine JLh (BL c) (Gu O (H71.down d (fun z0=>G6e z0 a) 85 [.dptr (Move.cs a)] Y1b O (fun z0 q hq=>Jca z0 a q hq) c g) Jb0 ⟨O,O,O,O,ø⟩) O (JLh (BL (!c)) (Yc (b:=c) O O) O (JLm (BL (!c)) O (G6 (f (Gs (fin1 BL h))))))

def Gb6 (b:Move) (a:Ge):Option Bool:=
 bnd (G1d a.on) fun e=>
 bnd (G06 (Gw.keys a.on)) fun c=>
 bnd (H6f b.Slot c) fun d=>
 some d
theorem Q33 (b:Move) (a:Ge) (r:Bool) (h:Gb6 b a=some r):Pure En 86 [.dptr (Move.cs b),.dptr [.dptr (Ge.cs a)]] (·=BL r):=by
 unfold Gb6 at h
 refine Gz [.tmp 2] Tryz.func86 O O (Jr fun e=>(JLm (BL false) O (G6 (e (Js fun f=>?_)))))
 obtain⟨k,g,h⟩:=Gd h
 obtain⟨c,i,h⟩:=Gd h
 obtain⟨d,j,h⟩:=Gd h
 refine JC_d0 J1 (by kernel_rfl) (Dq (.dptr ((Move.cs b).drop 2)) (Ga Qx O O O) O (Dq (.agg (Slot.cs b.Slot)) (Gm J4 O O O) O (Dq (Eg a) (Gg Jj O O O) O (Dq (Eg a) (G83 O O) O (Dq (.dptr ((Ge.cs a).drop 13)) (Ga Yv O O O) O (Dq (DM Slot.kv Box.av a.on) (Gg Z2 O O O) O (Dq (.fn 125 [.dptr [DM Slot.kv Box.av a.on]]) (Gu (args:=[DM Slot.kv Box.av a.on]) O (H42 a.on k g) Y18 ⟨O,O,ø⟩) O (Dq (BG 3 Slot.av c) (Gu (args:=[.fn 125 [.dptr [DM Slot.kv Box.av a.on]]]) O (Ha7.down (Gw.keys a.on) 125 [.dptr [DM Slot.kv Box.av a.on]] Rb1 O (H20 a.on) c i) Y19 ⟨O,O,ø⟩) O (Dq (BL d) (Gu (args:=[.agg (Slot.cs b.Slot),BG 3 Slot.av c]) O (Jf9.down b.Slot c d j) Qad ⟨O,O,O,O,ø⟩) O (Dq (BL d) (G7 O O) O (Dnil ?_)))))))))))
 refine f (Gs (fin1 BL h))

def Gb5 (b:Ge) (c:Move) (d:Box):Option Bool:=
 Qm b.ship.Columns c.Slot.G3 fun a=>
 bnd (bif (!(decide (a.Height≤0))) then G38 b c.Slot d 1 else some default) fun e=>
 bnd (bif (!(decide (a.Height≤0))) then G38 b c.Slot d 2 else some default) fun f=>
 some ((decide (a.Height≤0))||(decide ((max e f)≤a.Height)))
theorem Q32 (a:Ge) (c:Move) (d:Box) (r:Bool) (h:Gb5 a c d=some r):Pure En 89 [.dptr [.dptr (Ge.cs a)],Ef c,Ei d] (·=BL r):=by
 unfold Gb5 at h
 refine Gz [.tmp 3] Tryz.func89 O O (Jr fun i=>(JLm (BL false) O (G6 (i (Js fun j=>?_)))))
 obtain⟨p,b,k,l,h⟩:=Rw h
 refine JC_d0 J1 (by kernel_rfl) (Dq (Eg a) (Gg Jj O O O) O (Dq (Eg a) (G83 O O) O (Dq (Eg a) (Ga Yw O O O) O (Dq (Eg a) (Ga Jc O O O) O (Dq (E3 a.ship.Columns) (Gg Jv O O O) O (Dq (.dptr ((Move.cs c).drop 2)) (Ga Qx O O O) O (Dq (.dptr ((Move.cs c).drop 2)) (Ga Jb O O O) O (Dq (I64 c.Slot.G3) (Gg Gb O O O) O (Dq (Ej b) (Hb (f:=G3.av) (xs:=a.ship.Columns) (y:=b) O O O Hz l k) O (Dq (.dptr ((G3.cs b).drop 4)) (Ga Hda O O O) O (Dq (I64 b.Height) (Gg Gb O O O) O (Dq (I64 b.Height) (G7 O O) O (Dnil (j (Js fun m=>?_)))))))))))))))
 obtain⟨e,n,h⟩:=Gd h
 obtain⟨g,o,h⟩:=Gd h
 refine JC_d0 J1 (by kernel_rfl) (Dq (I64 b.Height) (G5 O O) O (Dq (BL (decide (b.Height≤0))) (Hd6 O O O) O (Dq (BL (decide (b.Height≤0))) (G5 O O) O (Do (Eg a) [] O .scf ø (fun hc=>Gg Jj O O O) O (Do (.dptr ((Move.cs c).drop 2)) [] O .scf ø (fun hc=>Ga Qx O O O) O (Do (.agg (Slot.cs c.Slot)) [20] O .scf ⟨Ua,ø⟩ (fun hc=>Gm J4 O O O) O (Do (.agg (Box.cs d)) [] O .scf ø (fun hc=>Gm Ra O O O) O (Do (I64 e) [19,21,22] O .scf ⟨Ua,Ua,Ua,ø⟩ (fun hc=>Gu (args:=[.dptr (Ge.cs a),.agg (Slot.cs c.Slot),.agg (Box.cs d),U8 1]) O (Hfa.down a c.Slot d 1 e (H2 hc n)) Qa9 ⟨O,O,O,O,O,O,O,O,ø⟩) O (Do (Eg a) [] O .scf ø (fun hc=>Gg Jj O O O) O (Do (.dptr ((Move.cs c).drop 2)) [] O .scf ø (fun hc=>Ga Qx O O O) O (Do (.agg (Slot.cs c.Slot)) [25] O .scf ⟨Ua,ø⟩ (fun hc=>Gm J4 O O O) O (Do (.agg (Box.cs d)) [] O .scf ø (fun hc=>Gm Ra O O O) O (Do (I64 g) [24,26,27] O .scf ⟨Ua,Ua,Ua,ø⟩ (fun hc=>Gu (args:=[.dptr (Ge.cs a),.agg (Slot.cs c.Slot),.agg (Box.cs d),U8 2]) O (Hfa.down a c.Slot d 2 g (H2 hc o)) Qa9 ⟨O,O,O,O,O,O,O,O,ø⟩) O ?_)))))))))))))
 refine Do (I64 (max e g)) [23,28] O .scf ⟨Ua,Ua,ø⟩ (fun hc=>Z8f O O O) O (Do (I64 b.Height) [] O .scf ø (fun hc=>G5 O O) O (Do (BL (decide ((max e g)≤b.Height))) [29,30] O .scf ⟨Ua,Ua,ø⟩ (fun hc=>Hd6 O O O) O (Dq (BL ((decide (b.Height≤0))||(decide ((max e g)≤b.Height)))) (G82 O O O O) O (Dq (BL ((decide (b.Height≤0))||(decide ((max e g)≤b.Height)))) (G7 O O) O (Dnil (m (Gs (fin1 BL h))))))))

def H1c (m:Ge) (x:Move):Option (Int×Ge):=
 bnd (some (Gw.get m.quay x.Box (Box.mk 0 ByteArray.empty 0 false 0 0 0 0 false))) fun a=>
 bnd (H65 (decide (x.G9=0)) 310) fun d=>
 bnd (H65 (Gw.has m.quay x.Box) 313) fun e=>
 bnd (H4e [(Z8 (decide (x.G9=0)),310),
  (Z8 (Gw.has m.quay x.Box),313),
  (Gb9 m (Move.mk x.Kind x.Box x.Slot x.G9) a,316),
  (Gb8 m (Move.mk x.Kind x.Box x.Slot x.G9),315),
  (Gb7 m (Move.mk x.Kind x.Box x.Slot x.G9),317),
  (Gb6 (Move.mk x.Kind x.Box x.Slot x.G9) m,318),
  (Gb5 m (Move.mk x.Kind x.Box x.Slot x.G9) a,319)]) fun b=>
 bif decide (b≠0) then
 (some (b,m))
 else
 (chk (m.lifts+1) fun c=>
  some (0,(Ge.mk m.ship (Gw.put m.on x.Slot a) (Gw.del m.quay x.Box) m.open_ c)))
abbrev Ey (m:Ge):List AV:=[E3 m.ship.Columns,E7 m.ship.Covers,I64 m.ship.Light.Kilos,I64 m.ship.Light.X,I64 m.ship.Light.Y,I64 m.ship.Light.Z,E4 m.ship.Rows,E5 m.ship.Frames,E6 m.ship.Tanks,I64 m.ship.G8.Tolerance,I64 m.ship.G8.Trim,I64 m.ship.G8.List_,I64 m.ship.G8.Stability,.mp 7001,.mp 7002,.mp 7003,I64 m.lifts]
theorem R04 (m:Ge) (x:Move) (r:Int×Ge) (h:H1c m x=some r):Hx En 43 [.ptr 7000 0,.agg (Move.cs x)] [(7000,.box 94 [E3 m.ship.Columns,E7 m.ship.Covers,I64 m.ship.Light.Kilos,I64 m.ship.Light.X,I64 m.ship.Light.Y,I64 m.ship.Light.Z,E4 m.ship.Rows,E5 m.ship.Frames,E6 m.ship.Tanks,I64 m.ship.G8.Tolerance,I64 m.ship.G8.Trim,I64 m.ship.G8.List_,I64 m.ship.G8.Stability,.mp 7001,.mp 7002,.mp 7003,I64 m.lifts]),(7001,TP 90 Slot.kv Box.av m.on),(7002,TP 91 Ks Box.av m.quay),(7003,TP 92 Ks I64 m.open_)] (fun av L'=>av=I64 r.1∧L'=[(7000,.box 94 [E3 r.2.ship.Columns,E7 r.2.ship.Covers,I64 r.2.ship.Light.Kilos,I64 r.2.ship.Light.X,I64 r.2.ship.Light.Y,I64 r.2.ship.Light.Z,E4 r.2.ship.Rows,E5 r.2.ship.Frames,E6 r.2.ship.Tanks,I64 r.2.ship.G8.Tolerance,I64 r.2.ship.G8.Trim,I64 r.2.ship.G8.List_,I64 r.2.ship.G8.Stability,.mp 7001,.mp 7002,.mp 7003,I64 r.2.lifts]),(7001,TP 90 Slot.kv Box.av r.2.on),(7002,TP 91 Ks Box.av r.2.quay),(7003,TP 92 Ks I64 r.2.open_)]):=by
 unfold H1c at h
 refine Ji [7000,7001,7002,7003] [.tmp 4] Tryz.func43 O O (G0c O) (Jr fun n=>(JLh (.ptr 1084 0) (Q6 (cs:=[.ptr 7000 0]) 1084 O O O O O) O (JLh (.ptr 1085 0) (Q6 (cs:=[U8 x.Kind,I64 x.Box,I64 x.Slot.G3,I64 x.Slot.Tier,U8 x.Slot.Half,I64 x.G9]) 1085 O O O O O) O (JLm (I64 0) O (G6 (n ?_))))))
 refine Gr [(2,.ptr 1084 0),(3,Ef x)] [(7000,.box 94 (Ey m)),(7001,TP 90 Slot.kv Box.av m.on),(7002,TP 91 Ks Box.av m.quay),(7003,TP 92 Ks I64 m.open_),(1084,.box 52 [.ptr 7000 0])] 1085 rfl rfl rfl ⟨⟨_,rfl,.boxEq rfl rfl⟩,fmQ O,fmQ O,fmQ O,⟨_,rfl,.boxEq rfl rfl⟩,ø⟩ rfl (by exact⟨.conv (.same rfl),.ptr,ø⟩) ?_
 refine Js fun o=>?_
 refine Qn (l':=[(2,.ptr 1084 0),(3,Ef x)]) (L':=[(7000,.box 94 (Ey m)),(7001,TP 90 Slot.kv Box.av m.on),(7002,TP 91 Ks Box.av m.quay),(7003,TP 92 Ks I64 m.open_),(1084,.box 52 [.ptr 7000 0])]) ⟨(.sm O O),⟨fbQ O (.sm O O),fmQ O,fmQ O,fmQ O,fbQ O ⟨.same rfl,ø⟩,ø⟩,rfl⟩ ?_
 obtain⟨b,e,h⟩:=Gd h
 refine Jm [10,11] [0,0,0,0,0,0,0,0,0,0,0,0,2] [1,1,1,1,1,1,1,1,1,2,0,0,2] [[(7000,.box 94 (Ey m)),(7001,TP 90 Slot.kv Box.av m.on),(7002,TP 91 Ks Box.av m.quay),(7003,TP 92 Ks I64 m.open_),(1084,.box 52 [.ptr 7000 0])],((1086,.box 103 [.junk,.junk,.junk,.junk,.junk,.junk,.junk,.junk,.junk])::[(7000,.box 94 (Ey m)),(7001,TP 90 Slot.kv Box.av m.on),(7002,TP 91 Ks Box.av m.quay),(7003,TP 92 Ks I64 m.open_),(1084,.box 52 [.ptr 7000 0])]),((1086,.box 103 (Box.cs b))::((1086,.box 103 [.junk,.junk,.junk,.junk,.junk,.junk,.junk,.junk,.junk])::[(7000,.box 94 (Ey m)),(7001,TP 90 Slot.kv Box.av m.on),(7002,TP 91 Ks Box.av m.quay),(7003,TP 92 Ks I64 m.open_),(1084,.box 52 [.ptr 7000 0])]))] J1 (by kernel_rfl) rfl rfl ?_
 refine Gc (u:=.ptr 7000 0) O O ⟨Gf (J2 Jj O O O O) O,Gf (J2 Jj O O O O) O,ø⟩ (Gc (u:=.ptr 7000 0) O O ⟨Gf (Z1 O O) O,Gf (Z1 O O) O,ø⟩ (Gc (u:=.ptr 7000 14) O O ⟨Gf (J9 G58 O O) O,Gf (J9 G58 O O) O,ø⟩ (Gc (u:=.mp 7002) O O ⟨Gf (J2 G43 O O O O) O,Gf (J2 G43 O O O O) O,ø⟩ (Gc (u:=.dptr ((Move.cs x).drop 1)) O O ⟨Gf (Ga G59 O O O) O,Gf (Ga G59 O O O) O,ø⟩ (Gc (u:=I64 x.Box) O O ⟨Gf (Gg Gb O O O) O,Gf (Gg Gb O O O) O,ø⟩ (Gc (u:=.tup [.agg (Box.cs b),BL (Gw.has m.quay x.Box)]) O O ⟨Gf (((M8 e) ▸ J30 (av:=Box.av) (m:=m.quay) (a:=x.Box) (Box.mk 0 ByteArray.empty 0 false 0 0 0 0 false) (.agg #[E0,.string ByteArray.empty,.int .u8 0,.bool false,E0,E0,E0,.int .u8 0,.bool false]) (fun _=>O) O (.own O) O J92 H84 J75 O)) O,Gf (((M8 e) ▸ J30 (av:=Box.av) (m:=m.quay) (a:=x.Box) (Box.mk 0 ByteArray.empty 0 false 0 0 0 0 false) (.agg #[E0,.string ByteArray.empty,.int .u8 0,.bool false,E0,E0,E0,.int .u8 0,.bool false]) (fun _=>O) O (.own O) O J92 H84 J75 O)) O,ø⟩ (Gc (u:=.tup [.agg (Box.cs b),BL (Gw.has m.quay x.Box)]) O O ⟨Gf (G5 O O) O,Gf (G5 O O) O,ø⟩ (Gc (u:=.agg (Box.cs b)) O O ⟨Gf (Gv O O O) O,Gf (Gv O O O) O,ø⟩ (Gc (u:=BL (Gw.has m.quay x.Box)) O O ⟨Gf (Gv O O O) O,Gf (Gv O O O) O,Gf (Gv O O O) O,ø⟩ (D_w (u:=.ptr 1086 0) O O O O (Gf (Hj 1086 9 R0 O O) O) (H22 (u:=.junk) O O O O (Gf (H7 (u:=.agg (Box.cs b)) (ds:=(Box.cs b)) Rs O O O O O O O O) O) (Gc (u:=BL (Gw.has m.quay x.Box)) O O ⟨Gf (G7 O O) O,ø⟩ (R4 ?_)))))))))))))
 refine o ?_
 refine fzQ [(2,.ptr 1084 0),(3,Ef x),(5,Ei b),(6,BL (Gw.has m.quay x.Box))] [(7000,.box 94 (Ey m)),(7001,TP 90 Slot.kv Box.av m.on),(7002,TP 91 Ks Box.av m.quay),(7003,TP 92 Ks I64 m.open_),(1084,.box 52 [.ptr 7000 0])] 1086 rfl rfl rfl ⟨⟨_,rfl,.boxEq rfl rfl⟩,fmQ O,fmQ O,fmQ O,⟨_,rfl,.boxEq rfl rfl⟩,ø⟩ rfl ?_
 refine Jr fun p=>(JLh (.dptr [I64 x.G9]) (Ga G2d O O O) O (JLh (I64 x.G9) (Gg Gb O O O) O (JLh (BL (decide (x.G9=0))) (Qg O O O) O ?_)))
 obtain⟨r5,s,h⟩:=Gd h
 refine JLh (.agg [.fn 123 [.dptr [BL (decide (x.G9=0))]],I64 310]) (Gu O (H40 (decide (x.G9=0)) 310 r5 s) H30 ⟨O,O,O,O,ø⟩) O (JLm (BL (Gw.has m.quay x.Box)) O ?_)
 obtain⟨r6,t,h⟩:=Gd h
 refine JLh (.agg [.fn 123 [.dptr [BL (Gw.has m.quay x.Box)]],I64 313]) (Gu O (H40 (Gw.has m.quay x.Box) 313 r6 t) H30 ⟨O,O,O,O,ø⟩) O (JLh (.fn 82 [.ptr 1084 0,Ef x,Ei b]) (Q4 (cs:=[.ptr 1084 0,Ef x,Ei b]) O O) O (JLh (.agg [.fn 82 [.ptr 1084 0,Ef x,Ei b],I64 316]) (Hi (cs:=[.fn 82 [.ptr 1084 0,Ef x,Ei b],I64 316]) [(0,1),(1,1)] [.sc .nilFunc,I64 0] [.nilFunc,E0] G04 G2b (zzQ O) O O) O (JLh (.fn 83 [.ptr 1084 0,Ef x]) (Q4 (cs:=[.ptr 1084 0,Ef x]) O O) O (JLh (.agg [.fn 83 [.ptr 1084 0,Ef x],I64 315]) (Hi (cs:=[.fn 83 [.ptr 1084 0,Ef x],I64 315]) [(0,1),(1,1)] [.sc .nilFunc,I64 0] [.nilFunc,E0] G04 G2b (zzQ O) O O) O (JLh (.fn 84 [.ptr 1084 0,Ef x]) (Q4 (cs:=[.ptr 1084 0,Ef x]) O O) O (JLh (.agg [.fn 84 [.ptr 1084 0,Ef x],I64 317]) (Hi (cs:=[.fn 84 [.ptr 1084 0,Ef x],I64 317]) [(0,1),(1,1)] [.sc .nilFunc,I64 0] [.nilFunc,E0] G04 G2b (zzQ O) O O) O (JLh (.fn 86 [.dptr (Move.cs x),.ptr 1084 0]) (Q4 (cs:=[.dptr (Move.cs x),.ptr 1084 0]) O O) O (JLh (.agg [.fn 86 [.dptr (Move.cs x),.ptr 1084 0],I64 318]) (Hi (cs:=[.fn 86 [.dptr (Move.cs x),.ptr 1084 0],I64 318]) [(0,1),(1,1)] [.sc .nilFunc,I64 0] [.nilFunc,E0] G04 G2b (zzQ O) O O) O (JLh (.fn 89 [.ptr 1084 0,Ef x,Ei b]) (Q4 (cs:=[.ptr 1084 0,Ef x,Ei b]) O O) O (JLh (.agg [.fn 89 [.ptr 1084 0,Ef x,Ei b],I64 319]) (Hi (cs:=[.fn 89 [.ptr 1084 0,Ef x,Ei b],I64 319]) [(0,1),(1,1)] [.sc .nilFunc,I64 0] [.nilFunc,E0] G04 G2b (zzQ O) O O) O (JLh (.ms 1087 0 7 7) (Q3a 1087 (xs:=[.agg [.fn 123 [.dptr [BL (decide (x.G9=0))]],I64 310],.agg [.fn 123 [.dptr [BL (Gw.has m.quay x.Box)]],I64 313],.agg [.fn 82 [.ptr 1084 0,Ef x,Ei b],I64 316],.agg [.fn 83 [.ptr 1084 0,Ef x],I64 315],.agg [.fn 84 [.ptr 1084 0,Ef x],I64 317],.agg [.fn 86 [.dptr (Move.cs x),.ptr 1084 0],I64 318],.agg [.fn 89 [.ptr 1084 0,Ef x,Ei b],I64 319]]) (cs:=[.fn 123 [.dptr [BL (decide (x.G9=0))]],I64 310,.fn 123 [.dptr [BL (Gw.has m.quay x.Box)]],I64 313,.fn 82 [.ptr 1084 0,Ef x,Ei b],I64 316,.fn 83 [.ptr 1084 0,Ef x],I64 315,.fn 84 [.ptr 1084 0,Ef x],I64 317,.fn 86 [.dptr (Move.cs x),.ptr 1084 0],I64 318,.fn 89 [.ptr 1084 0,Ef x,Ei b],I64 319]) O ⟨O,O,O,O,O,O,O,ø⟩ O H08 H7a O O O O O) O ?_)))))))))))
 obtain⟨c,w,h⟩:=Gd h
 refine JLg (I64 c) (G54 O (Qeb.down [J6.mk 123 [.dptr [BL (decide (x.G9=0))]] (Z8 (decide (x.G9=0))) 310 Gf9 O (fun q hq=>Gc6 (decide (x.G9=0)) q hq),
 J6.mk 123 [.dptr [BL (Gw.has m.quay x.Box)]] (Z8 (Gw.has m.quay x.Box)) 313 Gf9 rfl (fun q hq=>Gc6 (Gw.has m.quay x.Box) q hq),
 J6.mk 82 [.dptr [.dptr (Ge.cs m)],Ef x,Ei b] (Gb9 m (Move.mk x.Kind x.Box x.Slot x.G9) b) 316 Y1e rfl (fun q hq=>Q36 m (Move.mk x.Kind x.Box x.Slot x.G9) b q hq),
 J6.mk 83 [.dptr [.dptr (Ge.cs m)],Ef x] (Gb8 m (Move.mk x.Kind x.Box x.Slot x.G9)) 315 Y1d rfl (fun q hq=>Q35 m (Move.mk x.Kind x.Box x.Slot x.G9) q hq),
 J6.mk 84 [.dptr [.dptr (Ge.cs m)],Ef x] (Gb7 m (Move.mk x.Kind x.Box x.Slot x.G9)) 317 Y1c rfl (fun q hq=>Q34 m (Move.mk x.Kind x.Box x.Slot x.G9) q hq),
 J6.mk 86 [.dptr (Move.cs x),.dptr [.dptr (Ge.cs m)]] (Gb6 (Move.mk x.Kind x.Box x.Slot x.G9) m) 318 Y1a rfl (fun q hq=>Q33 (Move.mk x.Kind x.Box x.Slot x.G9) m q hq),
 J6.mk 89 [.dptr [.dptr (Ge.cs m)],Ef x,Ei b] (Gb5 m (Move.mk x.Kind x.Box x.Slot x.G9) b) 319 Y17 rfl (fun q hq=>Q32 m (Move.mk x.Kind x.Box x.Slot x.G9) b q hq)] c w) Jaf ⟨.msL rfl rfl rfl ⟨.data O O,.data O O,.data O O,.data O O,.fnL ⟨.ptrL rfl ⟨.ptrL rfl (dnQ 13 O O ⟨.mp rfl,.mp rfl,.mp rfl,.data O O,trivial⟩),trivial⟩,.data O O,.data O O,trivial⟩,.data O O,.fnL ⟨.ptrL rfl ⟨.ptrL rfl (dnQ 13 O O ⟨.mp rfl,.mp rfl,.mp rfl,.data O O,trivial⟩),trivial⟩,.data O O,trivial⟩,.data O O,.fnL ⟨.ptrL rfl ⟨.ptrL rfl (dnQ 13 O O ⟨.mp rfl,.mp rfl,.mp rfl,.data O O,trivial⟩),trivial⟩,.data O O,trivial⟩,.data O O,.fnL ⟨.data O O,.ptrL rfl ⟨.ptrL rfl (dnQ 13 O O ⟨.mp rfl,.mp rfl,.mp rfl,.data O O,trivial⟩),trivial⟩,trivial⟩,.data O O,.fnL ⟨.ptrL rfl ⟨.ptrL rfl (dnQ 13 O O ⟨.mp rfl,.mp rfl,.mp rfl,.data O O,trivial⟩),trivial⟩,.data O O,.data O O,trivial⟩,.data O O,trivial⟩,trivial⟩ rfl) ?_ rfl rfl rfl
 refine JLm (I64 c) O (G6 (p (Js fun y=>Jr fun z=>(JLm (I64 c) O (JLh (BL (decide (c≠0))) (G8e O O O) O (G6 (z (JCc O h (fun h hb=>?_) (fun h hb=>?_)))))))))
 ·
  refine Jr fun f=>(JLm (I64 c) O (JLm (I64 c) O (G6 (f (Gs ?_)))))
  obtain rfl:=M8 h
  exact⟨[I64 c],[(7000,.box 94 (Ey m)),(7001,TP 90 Slot.kv Box.av m.on),(7002,TP 91 Ks Box.av m.quay),(7003,TP 92 Ks I64 m.open_)],⟨fbQ O (.sm O O),fmQ O,fmQ O,fmQ O,ø⟩,rfl,⟨⟨_,rfl,.conv (.same rfl)⟩,ø⟩,rfl,rfl⟩
 ·
  refine Gk (y (Js fun g=>?_))
  refine Qn (l':=[(2,.ptr 1084 0),(3,Ef x),(5,Ei b)]) (L':=[(7000,.box 94 (Ey m)),(7001,TP 90 Slot.kv Box.av m.on),(7002,TP 91 Ks Box.av m.quay),(7003,TP 92 Ks I64 m.open_),(1084,.box 52 [.ptr 7000 0]),(1087,.box 151 [.fn 123 [.dptr [BL (decide (x.G9=0))]],I64 310,.fn 123 [.dptr [BL (Gw.has m.quay x.Box)]],I64 313,.fn 82 [.ptr 1084 0,Ef x,Ei b],I64 316,.fn 83 [.ptr 1084 0,Ef x],I64 315,.fn 84 [.ptr 1084 0,Ef x],I64 317,.fn 86 [.dptr (Move.cs x),.ptr 1084 0],I64 318,.fn 89 [.ptr 1084 0,Ef x,Ei b],I64 319])]) ⟨(.sm O O),⟨fbQ O (.sm O O),fmQ O,fmQ O,fmQ O,fbQ O ⟨.same rfl,ø⟩,fbQ O (.sm O O),ø⟩,rfl⟩ ?_
  refine Jm [6] [0,0,0,0,0,0,0] [0,0,0,0,0,0,0] [[(7000,.box 94 (Ey m)),(7001,TP 90 Slot.kv Box.av m.on),(7002,TP 91 Ks Box.av m.quay),(7003,TP 92 Ks I64 m.open_),(1084,.box 52 [.ptr 7000 0]),(1087,.box 151 [.fn 123 [.dptr [BL (decide (x.G9=0))]],I64 310,.fn 123 [.dptr [BL (Gw.has m.quay x.Box)]],I64 313,.fn 82 [.ptr 1084 0,Ef x,Ei b],I64 316,.fn 83 [.ptr 1084 0,Ef x],I64 315,.fn 84 [.ptr 1084 0,Ef x],I64 317,.fn 86 [.dptr (Move.cs x),.ptr 1084 0],I64 318,.fn 89 [.ptr 1084 0,Ef x,Ei b],I64 319])],((7002,TP 91 Ks Box.av (Gw.del m.quay x.Box))::[(7000,.box 94 (Ey m)),(7001,TP 90 Slot.kv Box.av m.on),(7002,TP 91 Ks Box.av m.quay),(7003,TP 92 Ks I64 m.open_),(1084,.box 52 [.ptr 7000 0]),(1087,.box 151 [.fn 123 [.dptr [BL (decide (x.G9=0))]],I64 310,.fn 123 [.dptr [BL (Gw.has m.quay x.Box)]],I64 313,.fn 82 [.ptr 1084 0,Ef x,Ei b],I64 316,.fn 83 [.ptr 1084 0,Ef x],I64 315,.fn 84 [.ptr 1084 0,Ef x],I64 317,.fn 86 [.dptr (Move.cs x),.ptr 1084 0],I64 318,.fn 89 [.ptr 1084 0,Ef x,Ei b],I64 319])])] J1 (by kernel_rfl) rfl rfl ?_
  refine Gc (u:=.ptr 7000 0) O O ⟨Gf (J2 Jj O O O O) O,ø⟩ (Gc (u:=.ptr 7000 0) O O ⟨Gf (Z1 O O) O,ø⟩ (Gc (u:=.ptr 7000 14) O O ⟨Gf (J9 G58 O O) O,ø⟩ (Gc (u:=.mp 7002) O O ⟨Gf (J2 G43 O O O O) O,ø⟩ (Gc (u:=.dptr ((Move.cs x).drop 1)) O O ⟨Gf (Ga G59 O O O) O,ø⟩ (Gc (u:=I64 x.Box) O O ⟨Gf (Gg Gb O O O) O,ø⟩ (H22 (u:=.tup []) O O O O (Gf (J2f (m:=m.quay) (a:=x.Box) (fun _=>O) O O O O J92 H84) O) (R4 (g (Js fun i=>?_)))))))))
  refine Qn (l':=[(2,.ptr 1084 0),(3,Ef x),(5,Ei b)]) (L':=[(7000,.box 94 (Ey m)),(7001,TP 90 Slot.kv Box.av m.on),(7002,TP 91 Ks Box.av (Gw.del m.quay x.Box)),(7003,TP 92 Ks I64 m.open_),(1084,.box 52 [.ptr 7000 0]),(1087,.box 151 [.fn 123 [.dptr [BL (decide (x.G9=0))]],I64 310,.fn 123 [.dptr [BL (Gw.has m.quay x.Box)]],I64 313,.fn 82 [.ptr 1084 0,Ef x,Ei b],I64 316,.fn 83 [.ptr 1084 0,Ef x],I64 315,.fn 84 [.ptr 1084 0,Ef x],I64 317,.fn 86 [.dptr (Move.cs x),.ptr 1084 0],I64 318,.fn 89 [.ptr 1084 0,Ef x,Ei b],I64 319])]) ⟨(.sm O O),⟨fbQ O (.sm O O),fmQ O,fmQ O,fmQ O,fbQ O ⟨.same rfl,ø⟩,fbQ O (.sm O O),ø⟩,rfl⟩ ?_
  refine Jm [7] [0,0,0,0,0,0,0,0] [0,0,0,0,0,0,0,0] [[(7000,.box 94 (Ey m)),(7001,TP 90 Slot.kv Box.av m.on),(7002,TP 91 Ks Box.av (Gw.del m.quay x.Box)),(7003,TP 92 Ks I64 m.open_),(1084,.box 52 [.ptr 7000 0]),(1087,.box 151 [.fn 123 [.dptr [BL (decide (x.G9=0))]],I64 310,.fn 123 [.dptr [BL (Gw.has m.quay x.Box)]],I64 313,.fn 82 [.ptr 1084 0,Ef x,Ei b],I64 316,.fn 83 [.ptr 1084 0,Ef x],I64 315,.fn 84 [.ptr 1084 0,Ef x],I64 317,.fn 86 [.dptr (Move.cs x),.ptr 1084 0],I64 318,.fn 89 [.ptr 1084 0,Ef x,Ei b],I64 319])],((7001,TP 90 Slot.kv Box.av (Gw.put m.on x.Slot b))::[(7000,.box 94 (Ey m)),(7001,TP 90 Slot.kv Box.av m.on),(7002,TP 91 Ks Box.av (Gw.del m.quay x.Box)),(7003,TP 92 Ks I64 m.open_),(1084,.box 52 [.ptr 7000 0]),(1087,.box 151 [.fn 123 [.dptr [BL (decide (x.G9=0))]],I64 310,.fn 123 [.dptr [BL (Gw.has m.quay x.Box)]],I64 313,.fn 82 [.ptr 1084 0,Ef x,Ei b],I64 316,.fn 83 [.ptr 1084 0,Ef x],I64 315,.fn 84 [.ptr 1084 0,Ef x],I64 317,.fn 86 [.dptr (Move.cs x),.ptr 1084 0],I64 318,.fn 89 [.ptr 1084 0,Ef x,Ei b],I64 319])])] J1 (by kernel_rfl) rfl rfl ?_
  refine Gc (u:=.ptr 7000 0) O O ⟨Gf (J2 Jj O O O O) O,ø⟩ (Gc (u:=.ptr 7000 0) O O ⟨Gf (Z1 O O) O,ø⟩ (Gc (u:=.ptr 7000 13) O O ⟨Gf (J9 Yv O O) O,ø⟩ (Gc (u:=.mp 7001) O O ⟨Gf (J2 Z2 O O O O) O,ø⟩ (Gc (u:=.dptr ((Move.cs x).drop 2)) O O ⟨Gf (Ga Qx O O O) O,ø⟩ (Gc (u:=.agg (Slot.cs x.Slot)) O O ⟨Gf (Gm J4 O O O) O,ø⟩ (Gc (u:=.agg (Box.cs b)) O O ⟨Gf (Gm Ra O O O) O,ø⟩ (H22 (u:=.junk) O O O O (Gf (H24 (m:=m.on) (a:=x.Slot) (v:=b) (fun _=>O) O O O O O O R98 G91) O) (R4 (i ?_)))))))))
  refine Jr fun j=>(JLh (.ptr 7000 0) (J2 Jj O O O O) O (JLh (.ptr 7000 0) (Z1 O O) O (JLh (.ptr 7000 16) (J9 Gd5 O O) O (JLh (I64 m.lifts) (J2 Gb O O O O) O ?_))))
  obtain⟨d,k,h⟩:=Ht h
  refine JLh (I64 d) (J3 k O O O) O (JLh (.ptr 7000 0) (Z1 O O) O (JLh (.ptr 7000 16) (J9 Gd5 O O) O (Hq (u:=.junk) (H7 (u:=I64 d) (ds:=[E3 m.ship.Columns,E7 m.ship.Covers,I64 m.ship.Light.Kilos,I64 m.ship.Light.X,I64 m.ship.Light.Y,I64 m.ship.Light.Z,E4 m.ship.Rows,E5 m.ship.Frames,E6 m.ship.Tanks,I64 m.ship.G8.Tolerance,I64 m.ship.G8.Trim,I64 m.ship.G8.List_,I64 m.ship.G8.Stability,.mp 7001,.mp 7002,.mp 7003,I64 d]) G63 O O O O O O O O) (G6 (j (Jr fun l=>(JLm (I64 0) O (G6 (l (Gs ?_))))))))))
  obtain rfl:=M8 h
  exact⟨[I64 0],[(7000,.box 94 [E3 m.ship.Columns,E7 m.ship.Covers,I64 m.ship.Light.Kilos,I64 m.ship.Light.X,I64 m.ship.Light.Y,I64 m.ship.Light.Z,E4 m.ship.Rows,E5 m.ship.Frames,E6 m.ship.Tanks,I64 m.ship.G8.Tolerance,I64 m.ship.G8.Trim,I64 m.ship.G8.List_,I64 m.ship.G8.Stability,.mp 7001,.mp 7002,.mp 7003,I64 d]),(7001,TP 90 Slot.kv Box.av (Gw.put m.on x.Slot b)),(7002,TP 91 Ks Box.av (Gw.del m.quay x.Box)),(7003,TP 92 Ks I64 m.open_)],⟨fbQ O (.sm O O),fmQ O,fmQ O,fmQ O,ø⟩,rfl,⟨⟨_,rfl,.conv (.same rfl)⟩,ø⟩,rfl,rfl⟩

def G4f (m:Ge) (x:Move):Option (Int×Ge):=
 jp (fun a=>
  bif decide (x.Kind=1) then
  (a (decide (x.Kind=1)))
  else
  (a (decide (x.Kind=4)))) fun(e:Bool)=>
 bif e then
 (bnd (G1b m (Move.mk x.Kind x.Box x.Slot x.G9)) fun b=>
  some (b.1,b.2))
 else
 (bif decide (x.Kind=2) then
  (bnd (Ge0 m (Move.mk x.Kind x.Box x.Slot x.G9)) fun c=>
   some (c.1,c.2))
  else
  (bif decide (x.Kind=3) then
   (bnd (H1c m (Move.mk x.Kind x.Box x.Slot x.G9)) fun d=>
    some (d.1,d.2))
   else
   (some (310,m))))
abbrev Ez (m:Ge):List AV:=[E3 m.ship.Columns,E7 m.ship.Covers,I64 m.ship.Light.Kilos,I64 m.ship.Light.X,I64 m.ship.Light.Y,I64 m.ship.Light.Z,E4 m.ship.Rows,E5 m.ship.Frames,E6 m.ship.Tanks,I64 m.ship.G8.Tolerance,I64 m.ship.G8.Trim,I64 m.ship.G8.List_,I64 m.ship.G8.Stability,.mp 7001,.mp 7002,.mp 7003,I64 m.lifts]
theorem Had (m:Ge) (x:Move) (r:Int×Ge) (h:G4f m x=some r):Hx En 13 [.ptr 7000 0,.agg (Move.cs x)] [(7000,.box 94 [E3 m.ship.Columns,E7 m.ship.Covers,I64 m.ship.Light.Kilos,I64 m.ship.Light.X,I64 m.ship.Light.Y,I64 m.ship.Light.Z,E4 m.ship.Rows,E5 m.ship.Frames,E6 m.ship.Tanks,I64 m.ship.G8.Tolerance,I64 m.ship.G8.Trim,I64 m.ship.G8.List_,I64 m.ship.G8.Stability,.mp 7001,.mp 7002,.mp 7003,I64 m.lifts]),(7001,TP 90 Slot.kv Box.av m.on),(7002,TP 91 Ks Box.av m.quay),(7003,TP 92 Ks I64 m.open_)] (fun av L'=>av=I64 r.1∧L'=[(7000,.box 94 [E3 r.2.ship.Columns,E7 r.2.ship.Covers,I64 r.2.ship.Light.Kilos,I64 r.2.ship.Light.X,I64 r.2.ship.Light.Y,I64 r.2.ship.Light.Z,E4 r.2.ship.Rows,E5 r.2.ship.Frames,E6 r.2.ship.Tanks,I64 r.2.ship.G8.Tolerance,I64 r.2.ship.G8.Trim,I64 r.2.ship.G8.List_,I64 r.2.ship.G8.Stability,.mp 7001,.mp 7002,.mp 7003,I64 r.2.lifts]),(7001,TP 90 Slot.kv Box.av r.2.on),(7002,TP 91 Ks Box.av r.2.quay),(7003,TP 92 Ks I64 r.2.open_)]):=by
 unfold G4f at h
 refine Ji [7000,7001,7002,7003] [.tmp 4] Tryz.func13 O O (G0c O) (Jr fun q=>(JLh (.ptr 1023 0) (Q6 (cs:=[U8 x.Kind,I64 x.Box,I64 x.Slot.G3,I64 x.Slot.Tier,U8 x.Slot.Half,I64 x.G9]) 1023 O O O O O) O (JLm (I64 0) O (G6 (q ?_)))))
 refine Gr [(0,.ptr 7000 0),(3,Ef x)] [(7000,.box 94 (Ez m)),(7001,TP 90 Slot.kv Box.av m.on),(7002,TP 91 Ks Box.av m.quay),(7003,TP 92 Ks I64 m.open_)] 1023 rfl rfl rfl ⟨⟨_,rfl,.boxEq rfl rfl⟩,fmQ O,fmQ O,fmQ O,ø⟩ rfl (by exact⟨.conv (.same rfl),.ptr,ø⟩) (Js fun s=>?_)
 refine Jr fun t=>(JLm (.ptr 7000 0) O (JLh (BL true) (G54 (args:=[.dptr (Ge.cs m)]) O (Rz m true O) G7c ⟨.ptrL O (dnQ 13 O O ⟨.mp O,.mp O,.mp O,.data O O,ø⟩),ø⟩ O) O (JLh (BL false) (Yc (b:=true) O O) O (G6 (t (G3b O (Gk (s (Js fun u=>Jr fun v=>(JLh (Ef x) (Ga H48 O O O) O (JLh (U8 x.Kind) (Gg Hy O O O) O (G6 (v (Gq ?_))))))))))))))
 obtain⟨w,f,h⟩:=Rc h
 refine Qk (fun e:Bool=>w e=some r) (fun e=>[(0,.ptr 7000 0),(3,Ef x),(9,U8 x.Kind),(10,BL e)]) (fun e=>[(7000,.box 94 (Ez m)),(7001,TP 90 Slot.kv Box.av m.on),(7002,TP 91 Ks Box.av m.quay),(7003,TP 92 Ks I64 m.open_)]) (fun Kj7 ej7=>?_) ?_
 ·
  refine Jr fun y=>(JLh (BL (decide (x.Kind=1))) (Qg O O O) O (JLm (BL (decide (x.Kind=1))) O (G6 (y (JCc O h (fun h hb=>?_) (fun h hb=>?_))))))
  ·
   refine Gk (ej7 _ _ (decide (x.Kind=1)) h ⟨(.sm O O),⟨fbQ O (.sm O O),fmQ O,fmQ O,fmQ O,ø⟩,rfl⟩)
  ·
   refine G2 (JLh (BL (decide (x.Kind=4))) (Qg O O O) O (JLm (BL (decide (x.Kind=4))) O (G6 (ej7 _ _ (decide (x.Kind=4)) h ⟨(.sm O O),⟨fbQ O (.sm O O),fmQ O,fmQ O,fmQ O,ø⟩,rfl⟩))))
 ·intro e h
  replace h:=app1 f h
  refine JCc O h ?_ ?_<;>intro h hb
  ·
   refine Jr fun z=>(JLm (.ptr 7000 0) O (JLh (.agg (Move.cs x)) (Gm G65 O O O) O ?_))
   obtain⟨a,g,h⟩:=Gd h
   refine JLh (I64 a.1) (Y1 (args:=[.ptr 7000 0,.agg (Move.cs x)]) (L0:=[(7000,.box 94 (Ez m)),(7001,TP 90 Slot.kv Box.av m.on),(7002,TP 91 Ks Box.av m.quay),(7003,TP 92 Ks I64 m.open_)]) (Lr:=[(7000,.box 94 [E3 a.2.ship.Columns,E7 a.2.ship.Covers,I64 a.2.ship.Light.Kilos,I64 a.2.ship.Light.X,I64 a.2.ship.Light.Y,I64 a.2.ship.Light.Z,E4 a.2.ship.Rows,E5 a.2.ship.Frames,E6 a.2.ship.Tanks,I64 a.2.ship.G8.Tolerance,I64 a.2.ship.G8.Trim,I64 a.2.ship.G8.List_,I64 a.2.ship.G8.Stability,.mp 7001,.mp 7002,.mp 7003,I64 a.2.lifts]),(7001,TP 90 Slot.kv Box.av a.2.on),(7002,TP 91 Ks Box.av a.2.quay),(7003,TP 92 Ks I64 a.2.open_)]) O (Jff m (Move.mk x.Kind x.Box x.Slot x.G9) a g) Y2e ⟨.inl O,O,.inl O,O,ø⟩ ⟨O,O,O,O,ø⟩ O O O) O (JLm (I64 a.1) O (G6 (z ?_)))
   refine Gs ?_
   obtain rfl:=M8 h
   exact⟨[I64 a.1],[(7000,.box 94 [E3 a.2.ship.Columns,E7 a.2.ship.Covers,I64 a.2.ship.Light.Kilos,I64 a.2.ship.Light.X,I64 a.2.ship.Light.Y,I64 a.2.ship.Light.Z,E4 a.2.ship.Rows,E5 a.2.ship.Frames,E6 a.2.ship.Tanks,I64 a.2.ship.G8.Tolerance,I64 a.2.ship.G8.Trim,I64 a.2.ship.G8.List_,I64 a.2.ship.G8.Stability,.mp 7001,.mp 7002,.mp 7003,I64 a.2.lifts]),(7001,TP 90 Slot.kv Box.av a.2.on),(7002,TP 91 Ks Box.av a.2.quay),(7003,TP 92 Ks I64 a.2.open_)],⟨fbQ O (.sm O O),fmQ O,fmQ O,fmQ O,ø⟩,rfl,⟨⟨_,rfl,.conv (.same rfl)⟩,ø⟩,rfl,rfl⟩
  ·
   refine Jr fun i=>(JLh (BL (decide (x.Kind=2))) (Qg O O O) O (JLm (BL (decide (x.Kind=2))) O (G6 (i (JCc O h (fun h hb=>?_) (fun h hb=>?_))))))
   ·
    refine Jr fun j=>(JLm (.ptr 7000 0) O (JLh (.agg (Move.cs x)) (Gm G65 O O O) O ?_))
    obtain⟨c,k,h⟩:=Gd h
    refine JLh (I64 c.1) (Y1 (args:=[.ptr 7000 0,.agg (Move.cs x)]) (L0:=[(7000,.box 94 (Ez m)),(7001,TP 90 Slot.kv Box.av m.on),(7002,TP 91 Ks Box.av m.quay),(7003,TP 92 Ks I64 m.open_)]) (Lr:=[(7000,.box 94 [E3 c.2.ship.Columns,E7 c.2.ship.Covers,I64 c.2.ship.Light.Kilos,I64 c.2.ship.Light.X,I64 c.2.ship.Light.Y,I64 c.2.ship.Light.Z,E4 c.2.ship.Rows,E5 c.2.ship.Frames,E6 c.2.ship.Tanks,I64 c.2.ship.G8.Tolerance,I64 c.2.ship.G8.Trim,I64 c.2.ship.G8.List_,I64 c.2.ship.G8.Stability,.mp 7001,.mp 7002,.mp 7003,I64 c.2.lifts]),(7001,TP 90 Slot.kv Box.av c.2.on),(7002,TP 91 Ks Box.av c.2.quay),(7003,TP 92 Ks I64 c.2.open_)]) O (Q7b m (Move.mk x.Kind x.Box x.Slot x.G9) c k) Y2d ⟨.inl O,O,.inl O,O,ø⟩ ⟨O,O,O,O,ø⟩ O O O) O (JLm (I64 c.1) O (G6 (j ?_)))
    refine Gs ?_
    obtain rfl:=M8 h
    exact⟨[I64 c.1],[(7000,.box 94 [E3 c.2.ship.Columns,E7 c.2.ship.Covers,I64 c.2.ship.Light.Kilos,I64 c.2.ship.Light.X,I64 c.2.ship.Light.Y,I64 c.2.ship.Light.Z,E4 c.2.ship.Rows,E5 c.2.ship.Frames,E6 c.2.ship.Tanks,I64 c.2.ship.G8.Tolerance,I64 c.2.ship.G8.Trim,I64 c.2.ship.G8.List_,I64 c.2.ship.G8.Stability,.mp 7001,.mp 7002,.mp 7003,I64 c.2.lifts]),(7001,TP 90 Slot.kv Box.av c.2.on),(7002,TP 91 Ks Box.av c.2.quay),(7003,TP 92 Ks I64 c.2.open_)],⟨fbQ O (.sm O O),fmQ O,fmQ O,fmQ O,ø⟩,rfl,⟨⟨_,rfl,.conv (.same rfl)⟩,ø⟩,rfl,rfl⟩
   ·
    refine Jr fun l=>(JLh (BL (decide (x.Kind=3))) (Qg O O O) O (JLm (BL (decide (x.Kind=3))) O (G6 (l (JCc O h (fun h hb=>?_) (fun h hb=>?_))))))
    ·
     refine Jr fun n=>(JLm (.ptr 7000 0) O (JLh (.agg (Move.cs x)) (Gm G65 O O O) O ?_))
     obtain⟨d,o,h⟩:=Gd h
     refine JLh (I64 d.1) (Y1 (args:=[.ptr 7000 0,.agg (Move.cs x)]) (L0:=[(7000,.box 94 (Ez m)),(7001,TP 90 Slot.kv Box.av m.on),(7002,TP 91 Ks Box.av m.quay),(7003,TP 92 Ks I64 m.open_)]) (Lr:=[(7000,.box 94 [E3 d.2.ship.Columns,E7 d.2.ship.Covers,I64 d.2.ship.Light.Kilos,I64 d.2.ship.Light.X,I64 d.2.ship.Light.Y,I64 d.2.ship.Light.Z,E4 d.2.ship.Rows,E5 d.2.ship.Frames,E6 d.2.ship.Tanks,I64 d.2.ship.G8.Tolerance,I64 d.2.ship.G8.Trim,I64 d.2.ship.G8.List_,I64 d.2.ship.G8.Stability,.mp 7001,.mp 7002,.mp 7003,I64 d.2.lifts]),(7001,TP 90 Slot.kv Box.av d.2.on),(7002,TP 91 Ks Box.av d.2.quay),(7003,TP 92 Ks I64 d.2.open_)]) O (R04 m (Move.mk x.Kind x.Box x.Slot x.G9) d o) Y2c ⟨.inl O,O,.inl O,O,ø⟩ ⟨O,O,O,O,ø⟩ O O O) O (JLm (I64 d.1) O (G6 (n ?_)))
     refine Gs ?_
     obtain rfl:=M8 h
     exact⟨[I64 d.1],[(7000,.box 94 [E3 d.2.ship.Columns,E7 d.2.ship.Covers,I64 d.2.ship.Light.Kilos,I64 d.2.ship.Light.X,I64 d.2.ship.Light.Y,I64 d.2.ship.Light.Z,E4 d.2.ship.Rows,E5 d.2.ship.Frames,E6 d.2.ship.Tanks,I64 d.2.ship.G8.Tolerance,I64 d.2.ship.G8.Trim,I64 d.2.ship.G8.List_,I64 d.2.ship.G8.Stability,.mp 7001,.mp 7002,.mp 7003,I64 d.2.lifts]),(7001,TP 90 Slot.kv Box.av d.2.on),(7002,TP 91 Ks Box.av d.2.quay),(7003,TP 92 Ks I64 d.2.open_)],⟨fbQ O (.sm O O),fmQ O,fmQ O,fmQ O,ø⟩,rfl,⟨⟨_,rfl,.conv (.same rfl)⟩,ø⟩,rfl,rfl⟩
    ·
     refine Gk (u (Jr fun p=>(JLm (I64 310) O (G6 (p (Gs ?_))))))
     obtain rfl:=M8 h
     exact⟨[I64 310],[(7000,.box 94 (Ez m)),(7001,TP 90 Slot.kv Box.av m.on),(7002,TP 91 Ks Box.av m.quay),(7003,TP 92 Ks I64 m.open_)],⟨fbQ O (.sm O O),fmQ O,fmQ O,fmQ O,ø⟩,rfl,⟨⟨_,rfl,.conv (.same rfl)⟩,ø⟩,rfl,rfl⟩
end
end Go.Proofs.YtgcpimpnpcdmmaaGreat
