/- Walks of functions. -/
import Derived.Test.YtgcpimpnpcdmmaaGreatSpecK
set_option maxRecDepth 100000
set_option maxHeartbeats 1000000
set_option linter.unusedVariables false
set_option linter.unusedSimpArgs false
namespace Go.Proofs.YtgcpimpnpcdmmaaGreat
open Go.RowKit
noncomputable section
structure Move where
 Kind:Int
 Box:Int
 Slot:Slot
 G9:Int
 deriving DecidableEq,Inhabited
def Move.cs (x:Move):List AV:=[U8 x.Kind,I64 x.Box,I64 x.Slot.G3,I64 x.Slot.Tier,U8 x.Slot.Half,I64 x.G9]
def Move.av (x:Move):AV:=.agg x.cs
abbrev Ef (x:Move):AV:=.dptr (Move.cs x)
abbrev Ea:=LS 6 Move.av
namespace XTF
open XAF
open XCF
open XSF
open XKF
theorem Gb4:H35 En 59 6=true:=by kernel_rfl
theorem Gf3:H0 En 123=true:=by kernel_rfl
theorem Ra8:H0 En 125=true:=by kernel_rfl
theorem Y21:H0 En 41=true:=by kernel_rfl
theorem Y20:H0 En 42=true:=by kernel_rfl
theorem Y1f:H0 En 43=true:=by kernel_rfl
theorem Qa1:H0 En 63=true:=by kernel_rfl
theorem Qa0:H0 En 64=true:=by kernel_rfl
theorem Q9f:H0 En 65=true:=by kernel_rfl
theorem Q9e:H0 En 71=true:=by kernel_rfl
theorem Y17:H0 En 73=true:=by kernel_rfl
theorem J9d:H0 En 74=true:=by kernel_rfl
theorem Y16:H0 En 75=true:=by kernel_rfl
theorem J9c:H0 En 76=true:=by kernel_rfl
theorem H28:H0 En 77=true:=by kernel_rfl
theorem Y15:H0 En 78=true:=by kernel_rfl
theorem Y14:H0 En 79=true:=by kernel_rfl
theorem Y13:H0 En 80=true:=by kernel_rfl
theorem Q9d:H0 En 81=true:=by kernel_rfl
theorem Y12:H0 En 82=true:=by kernel_rfl
theorem Y11:H0 En 83=true:=by kernel_rfl
theorem Y10:H0 En 84=true:=by kernel_rfl
theorem Y0f:H0 En 85=true:=by kernel_rfl
theorem Y0e:H0 En 86=true:=by kernel_rfl
theorem Y0d:H0 En 87=true:=by kernel_rfl
theorem Y0c:H0 En 88=true:=by kernel_rfl
theorem Y0b:H0 En 89=true:=by kernel_rfl
theorem Q9c:H0 En 90=true:=by kernel_rfl
theorem H3e:Ju En 59 0 0=true:=by kernel_rfl
theorem G49:Ju En 59 1 1=true:=by kernel_rfl
theorem Qt:Ju En 59 2 2=true:=by kernel_rfl
theorem G21:Ju En 59 3 5=true:=by kernel_rfl
theorem G48:Ju En 94 2 14=true:=by kernel_rfl
theorem Jf:R5 En 52=true:=by kernel_rfl
theorem G53:Y7 En 3 1=true:=by kernel_rfl
theorem R1b:Y7 En 4 1=true:=by kernel_rfl
theorem Y00:R1 En 4 1=true:=by kernel_rfl
theorem J5e:(En.info? 103).bind (·.zero)=some (.agg #[E0,.string ByteArray.empty,.int .u8 0,.bool false,E0,E0,E0,.int .u8 0,.bool false]):=by kernel_rfl
end XTF
open XAF
open XCF
open XSF
open XKF
open XTF

def G19 (y:Slot) (a:Gc) (c:Move):Option Bool:=
 Qw a.ship.Columns y.G3 fun b=>
 bnd (bif b.Deck then Rb a.ship y.G3 else some default) fun d=>
 some (b.Deck&&(decide (d=c.G9)))
theorem J2e (y:Slot) (b:Gc) (a:Move) (r:Bool) (h:G19 y b a=some r):Pure En 75 [.agg [I64 y.G3,I64 y.Tier,U8 y.Half],.dptr [.dptr (Gc.cs b)],.dptr [U8 a.Kind,I64 a.Box,I64 a.Slot.G3,I64 a.Slot.Tier,U8 a.Slot.Half,I64 a.G9]] (·=BL r):=by
 unfold G19 at h
 refine Gx [.tmp 4] Tryz.func75 O O (Jr fun e=>(JLh (.ptr 1144 0) (Q4 (cs:=[I64 y.G3,I64 y.Tier,U8 y.Half]) 1144 O O O O O) O (JLm (BL false) O (G5 (e (Gn [(1,.dptr [.dptr (Gc.cs b)]),(2,.dptr [U8 a.Kind,I64 a.Box,I64 a.Slot.G3,I64 a.Slot.Tier,U8 a.Slot.Half,I64 a.G9]),(3,.dptr [I64 y.G3,I64 y.Tier,U8 y.Half])] [] 1144 rfl rfl rfl ø rfl (by exact⟨.conv (.same rfl),.conv (.same rfl),.ptr,ø⟩) (Js fun g=>?_)))))))
 obtain⟨l,c,i,j,h⟩:=Yc h
 obtain⟨d,k,h⟩:=Ge h
 refine JC_d0 J9 (by kernel_rfl) (Dq (Eg b) (Gg Jf O O O) O (Dq (Eg b) (G78 O O) O (Dq (Eg b) (Ga Ym O O O) O (Dq (Eg b) (Ga J8 O O O) O (Dq (E3 b.ship.Columns) (Gg Jp O O O) O (Dq (.dptr [I64 y.G3,I64 y.Tier,U8 y.Half]) (Ga J7 O O O) O (Dq (I64 y.G3) (Gg Gb O O O) O (Dq (Ej c) (Hb (f:=G3.av) (xs:=b.ship.Columns) (y:=c) O O O Hy j i) O (Dq (.dptr ((G3.cs c).drop 2)) (Ga Yj O O O) O (Dq (BL c.Deck) (Gg Qb O O O) O (Dq (BL c.Deck) (G6 O O) O (Do (Eg b) [] O .sct ø (fun hc=>Gg Jf O O O) O (Do (Eg b) [16] O .sct ⟨Ua,ø⟩ (fun hc=>G78 O O) O ?_)))))))))))))
 refine Do (Eg b) [17] O .sct ⟨Ua,ø⟩ (fun hc=>Ga Ym O O O) O (Do (.agg (Gi.cs b.ship)) [18] O .sct ⟨Ua,ø⟩ (fun hc=>Gk Jd O O O) O (Do (.dptr [I64 y.G3,I64 y.Tier,U8 y.Half]) [] O .sct ø (fun hc=>Ga J7 O O O) O (Do (I64 y.G3) [20] O .sct ⟨Ua,ø⟩ (fun hc=>Gg Gb O O O) O (Do (I64 d) [19,21] O .sct ⟨Ua,Ua,ø⟩ (fun hc=>Gu (args:=[.agg (Gi.cs b.ship),I64 y.G3]) O (G5f b.ship y.G3 d (H4 hc k)) H83 ⟨O,O,O,O,ø⟩) O (Do (.dptr [I64 a.G9]) [] O .sct ø (fun hc=>Ga G21 O O O) O (Do (I64 a.G9) [23] O .sct ⟨Ua,ø⟩ (fun hc=>Gg Gb O O O) O (Do (BL (decide (d=a.G9))) [22,24] O .sct ⟨Ua,Ua,ø⟩ (fun hc=>Qk O O O) O (Dq (BL (c.Deck&&(decide (d=a.G9)))) (Y4 O O O O) O (Dq (BL (c.Deck&&(decide (d=a.G9)))) (G7 O O) O (Dnil ?_))))))))))
 refine g (Gs (fin1 BL h))

def G0c (a:Bool) (b:Gc) (c:Move):Option Bool:=
 bnd (bif (!(!a)) then Zy b (fun z0=>G19 z0 b c) else some default) fun d=>
 some ((!a)||(!d))
theorem J82 (c:Bool) (a:Gc) (d:Move) (r:Bool) (h:G0c c a d=some r):Pure En 73 [.dptr [BL c],.dptr [.dptr (Gc.cs a)],Ef d] (·=BL r):=by
 unfold G0c at h
 refine Gx [.tmp 3] Tryz.func73 O O (Jr fun f=>(JLm (BL false) O (G5 (f (Jr fun g=>(JLh (BL c) (Gg Qb O O O) O (JLh (BL (!c)) (Y8 (b:=c) O O) O (JLm (BL (!c)) O (JLo (Eg a) [] O .scf ø (fun hc=>Gg Jf O O O) O (JLo (.fn 75 [.dptr [.dptr (Gc.cs a)],Ef d]) [] O .scf ø (fun hc=>Q2 (cs:=[.dptr [.dptr (Gc.cs a)],Ef d]) O O) O ?_))))))))))
 obtain⟨e,i,h⟩:=Ge h
 refine JLo (BL e) [7,8] O .scf ⟨Ua,Ua,ø⟩ (fun hc=>Gu (args:=[.dptr (Gc.cs a),.fn 75 [.dptr [.dptr (Gc.cs a)],Ef d]]) O (H66.down a (fun z0=>G19 z0 a d) 75 [.dptr [.dptr (Gc.cs a)],Ef d] Y16 O (fun z0 q hq=>J2e z0 a d q hq) e (H4 hc i)) J9d ⟨O,O,O,O,ø⟩) O (JLo (BL (!e)) [9] O .scf ⟨Ua,ø⟩ (fun hc=>Y8 (b:=e) O O) O (JLh (BL ((!c)||(!e))) (G94 O O O O) O (JLm (BL ((!c)||(!e))) O (G5 (g (Gs (fin1 BL h)))))))

def G12 (m:Gc) (x:Move):Option (Int×Gc):=
 bnd (H5b ((((decide (x.Box=0))&&(decide (x.Slot=(Slot.mk 0 0 0))))&&(decide (0≤x.G9)))&&(decide (x.G9 < (m.ship.Covers.length:Int)))) 310) fun g=>
 bnd (some (Gv.get m.open_ x.G9 0)) fun b=>
 bnd (H5b (!((decide (0 < b))==(decide (x.Kind=1)))) 311) fun h=>
 bnd (H43 [(Yx ((((decide (x.Box=0))&&(decide (x.Slot=(Slot.mk 0 0 0))))&&(decide (0≤x.G9)))&&(decide (x.G9 < (m.ship.Covers.length:Int)))),310),
  (Yx (!((decide (0 < b))==(decide (x.Kind=1)))),311),
  (G0c (decide (x.Kind=1)) m (Move.mk x.Kind x.Box x.Slot x.G9),312)]) fun c=>
 bif decide (c≠0) then
 (some (c,m))
 else
 (jp (fun a=>
   bif decide (x.Kind=1) then
   (bnd (some (Gv.get m.open_ x.G9 0)) fun d=>
    chk (d+1) fun e=>
    a (Gc.mk m.ship m.on m.quay (Gv.put m.open_ x.G9 e) m.lifts))
   else
   (a (Gc.mk m.ship m.on m.quay (Gv.del m.open_ x.G9) m.lifts))) fun(f:Gc)=>
  some (0,f))
abbrev Es (m:Gc):List AV:=[E3 m.ship.Columns,E8 m.ship.Covers,I64 m.ship.Light.Kilos,I64 m.ship.Light.X,I64 m.ship.Light.Y,I64 m.ship.Light.Z,E4 m.ship.Rows,E5 m.ship.Frames,E6 m.ship.Tanks,I64 m.ship.G8.Tolerance,I64 m.ship.G8.Trim,I64 m.ship.G8.List_,I64 m.ship.G8.Stability,.mp 1208,.mp 1209,.mp 1210,I64 m.lifts]
abbrev Eu (x:Move) (m:Gc):List AV:=[.dptr [BL ((((decide (x.Box=0))&&(decide (x.Slot=(Slot.mk 0 0 0))))&&(decide (0≤x.G9)))&&(decide (x.G9 < (m.ship.Covers.length:Int))))]]
abbrev Ev (x:Move):List AV:=[.dptr [BL (decide (x.Kind=1))],.ptr 1073 0,Ef x]
abbrev Ew (a:Gc):List AV:=[E3 a.ship.Columns,E8 a.ship.Covers,I64 a.ship.Light.Kilos,I64 a.ship.Light.X,I64 a.ship.Light.Y,I64 a.ship.Light.Z,E4 a.ship.Rows,E5 a.ship.Frames,E6 a.ship.Tanks,I64 a.ship.G8.Tolerance,I64 a.ship.G8.Trim,I64 a.ship.G8.List_,I64 a.ship.G8.Stability,.mp 1208,.mp 1209,.mp 1210,I64 a.lifts]
theorem Jf0 (m:Gc) (x:Move) (r:Int×Gc) (h:G12 m x=some r):J5 En 41 [.ptr 1207 0,.agg (Move.cs x)] [(1207,.box 94 [E3 m.ship.Columns,E8 m.ship.Covers,I64 m.ship.Light.Kilos,I64 m.ship.Light.X,I64 m.ship.Light.Y,I64 m.ship.Light.Z,E4 m.ship.Rows,E5 m.ship.Frames,E6 m.ship.Tanks,I64 m.ship.G8.Tolerance,I64 m.ship.G8.Trim,I64 m.ship.G8.List_,I64 m.ship.G8.Stability,.mp 1208,.mp 1209,.mp 1210,I64 m.lifts]),(1208,TP 90 Slot.kv Box.av m.on),(1209,TP 91 Ks Box.av m.quay),(1210,TP 92 Ks I64 m.open_)] (fun av L'=>av=I64 r.1∧L'=[(1207,.box 94 [E3 r.2.ship.Columns,E8 r.2.ship.Covers,I64 r.2.ship.Light.Kilos,I64 r.2.ship.Light.X,I64 r.2.ship.Light.Y,I64 r.2.ship.Light.Z,E4 r.2.ship.Rows,E5 r.2.ship.Frames,E6 r.2.ship.Tanks,I64 r.2.ship.G8.Tolerance,I64 r.2.ship.G8.Trim,I64 r.2.ship.G8.List_,I64 r.2.ship.G8.Stability,.mp 1208,.mp 1209,.mp 1210,I64 r.2.lifts]),(1208,TP 90 Slot.kv Box.av r.2.on),(1209,TP 91 Ks Box.av r.2.quay),(1210,TP 92 Ks I64 r.2.open_)]):=by
 unfold G12 at h
 refine Jk [1207,1208,1209,1210] [.tmp 4] Tryz.func41 O O (G18 O) (Jr fun s=>(JLh (.ptr 1073 0) (Q4 (cs:=[.ptr 1207 0]) 1073 O O O O O) O (JLh (.ptr 1074 0) (Q4 (cs:=[U8 x.Kind,I64 x.Box,I64 x.Slot.G3,I64 x.Slot.Tier,U8 x.Slot.Half,I64 x.G9]) 1074 O O O O O) O (JLm (I64 0) O (G5 (s ?_))))))
 refine Gn [(2,.ptr 1073 0),(3,Ef x)] [(1207,.box 94 (Es m)),(1208,TP 90 Slot.kv Box.av m.on),(1209,TP 91 Ks Box.av m.quay),(1210,TP 92 Ks I64 m.open_),(1073,.box 52 [.ptr 1207 0])] 1074 rfl rfl rfl ⟨⟨_,rfl,.boxEq rfl rfl⟩,fmQ O,fmQ O,fmQ O,⟨_,rfl,.boxEq rfl rfl⟩,ø⟩ rfl (by exact⟨.conv (.same rfl),.ptr,ø⟩) ?_
 refine Jr fun t=>(JLh (Ef x) (Ga H3e O O O) O (JLh (U8 x.Kind) (Gg Hx O O O) O (JLh (BL (decide (x.Kind=1))) (Qk O O O) O (JLh (.ptr 1075 0) (Hk 1075 1 Y00 O O) O (Ho (u:=.junk) (H7 (u:=BL (decide (x.Kind=1))) (ds:=[BL (decide (x.Kind=1))]) R1b O O O O O O O O) (G5 (t ?_)))))))
 refine Gn [(2,.ptr 1073 0),(3,Ef x),(5,.dptr [BL (decide (x.Kind=1))])] [(1207,.box 94 (Es m)),(1208,TP 90 Slot.kv Box.av m.on),(1209,TP 91 Ks Box.av m.quay),(1210,TP 92 Ks I64 m.open_),(1073,.box 52 [.ptr 1207 0])] 1075 rfl rfl rfl ⟨⟨_,rfl,.boxEq rfl rfl⟩,fmQ O,fmQ O,fmQ O,⟨_,rfl,.boxEq rfl rfl⟩,ø⟩ rfl (by exact⟨.conv (.same rfl),.conv (.same rfl),.ptr,ø⟩) ?_
 refine Jr fun w=>(JLh (.fn 73 (Ev x)) (Q2 (cs:=(Ev x)) O O) O (JLm (.fn 73 (Ev x)) O (G5 (w (Js fun y=>?_)))))
 refine Qs (l':=[(2,.ptr 1073 0),(3,Ef x),(5,.dptr [BL (decide (x.Kind=1))]),(6,.fn 73 (Ev x))]) (L':=[(1207,.box 94 (Es m)),(1208,TP 90 Slot.kv Box.av m.on),(1209,TP 91 Ks Box.av m.quay),(1210,TP 92 Ks I64 m.open_),(1073,.box 52 [.ptr 1207 0])]) ⟨(.sm O O),⟨fbQ O (.sm O O),fmQ O,fmQ O,fmQ O,fbQ O ⟨.same rfl,ø⟩,ø⟩,rfl⟩ ?_
 obtain⟨r5,z,h⟩:=Ge h
 obtain⟨c,a0,h⟩:=Ge h
 obtain⟨r7,a1,h⟩:=Ge h
 obtain⟨d,a2,h⟩:=Ge h
 refine Jq [39] [0,0,0,0,0,0,0,0,0,0,0,0,0,0,0,0,0,0,0,0,0,0,0,0,0,0,0,0,0,0,0,0,0,0,0,0,0,0,0,0,1,1] [0,0,0,0,0,0,0,0,0,0,0,0,0,0,0,0,0,0,0,0,0,0,0,0,0,0,0,0,0,0,0,0,0,0,0,0,0,0,0,0,1,1] [[(1207,.box 94 (Es m)),(1208,TP 90 Slot.kv Box.av m.on),(1209,TP 91 Ks Box.av m.quay),(1210,TP 92 Ks I64 m.open_),(1073,.box 52 [.ptr 1207 0])],((1076,.box 151 [.fn 123 (Eu x m),I64 310,.fn 123 [.dptr [BL (!((decide (0 < c))==(decide (x.Kind=1))))]],I64 311,.fn 73 (Ev x),I64 312])::[(1207,.box 94 (Es m)),(1208,TP 90 Slot.kv Box.av m.on),(1209,TP 91 Ks Box.av m.quay),(1210,TP 92 Ks I64 m.open_),(1073,.box 52 [.ptr 1207 0])])] J9 (by kernel_rfl) rfl rfl ?_
 refine Gd (u:=.dptr ((Move.cs x).drop 1)) O O ⟨Gh (Ga G49 O O O) O,ø⟩ (Gd (u:=I64 x.Box) O O ⟨Gh (Gg Gb O O O) O,ø⟩ (Gd (u:=BL (decide (x.Box=0))) O O ⟨Gh (Qk O O O) O,ø⟩ (Gd (u:=BL (decide (x.Box=0))) O O ⟨Gh (G6 O O) O,ø⟩ (Gd (u:=.opt (decide (x.Box=0)) (.dptr ((Move.cs x).drop 2))) O O ⟨Ha [] O O O .sct ø (fun hc=>Ga Qt O O O) O,ø⟩ (Gd (u:=.opt (decide (x.Box=0)) (.agg (Slot.cs x.Slot))) O O ⟨Ha [(16,.dptr ((Move.cs x).drop 2))] O O O .sct ⟨.all id,ø⟩ (fun hc=>Gk J2 O O O) O,ø⟩ (Gd (u:=.opt (decide (x.Box=0)) (.agg [I64 0,I64 0,U8 0])) O O ⟨Ha [] O O O .sct ø (fun hc=>Hg (cs:=[I64 0,I64 0,U8 0]) [(0,1),(1,1),(2,1)] [I64 0,I64 0,U8 0] [E0,E0,.int .u8 0] H05 Ge3 (zzQ O) O O) O,ø⟩ (Gd (u:=.opt (decide (x.Box=0)) (BL (decide (x.Slot=(Slot.mk 0 0 0))))) O O ⟨Ha [(17,.agg (Slot.cs x.Slot)),(18,.agg [I64 0,I64 0,U8 0])] O O O .sct ⟨.all id,.all id,ø⟩ (fun hc=>Y9c (vs:=[.int .i64 x.Slot.G3,.int .i64 x.Slot.Tier,.int .u8 x.Slot.Half]) (us:=[E0,E0,.int .u8 0]) 4 O (Y6e x.Slot (Slot.mk 0 0 0)) J3e Q03 O O O) O,ø⟩ (Gd (u:=BL ((decide (x.Box=0))&&(decide (x.Slot=(Slot.mk 0 0 0))))) O O ⟨Gh (Y4 O O O O) O,ø⟩ (Gd (u:=BL ((decide (x.Box=0))&&(decide (x.Slot=(Slot.mk 0 0 0))))) O O ⟨Gh (G6 O O) O,ø⟩ (Gd (u:=.opt ((decide (x.Box=0))&&(decide (x.Slot=(Slot.mk 0 0 0)))) (.dptr [I64 x.G9])) O O ⟨Ha [] O O O .sct ø (fun hc=>Ga G21 O O O) O,ø⟩ (Gd (u:=.opt ((decide (x.Box=0))&&(decide (x.Slot=(Slot.mk 0 0 0)))) (I64 x.G9)) O O ⟨Ha [(22,.dptr [I64 x.G9])] O O O .sct ⟨.all id,ø⟩ (fun hc=>Gg Gb O O O) O,ø⟩ (Gd (u:=.opt ((decide (x.Box=0))&&(decide (x.Slot=(Slot.mk 0 0 0)))) (BL (decide (0≤x.G9)))) O O ⟨Ha [(23,I64 x.G9)] O O O .sct ⟨.all id,ø⟩ (fun hc=>H24 O O O) O,ø⟩ (Gd (u:=BL (((decide (x.Box=0))&&(decide (x.Slot=(Slot.mk 0 0 0))))&&(decide (0≤x.G9)))) O O ⟨Gh (Y4 O O O O) O,ø⟩ ?_)))))))))))))
 refine Gd (u:=BL (((decide (x.Box=0))&&(decide (x.Slot=(Slot.mk 0 0 0))))&&(decide (0≤x.G9)))) O O ⟨Gh (G6 O O) O,ø⟩ (Gd (u:=.opt (((decide (x.Box=0))&&(decide (x.Slot=(Slot.mk 0 0 0))))&&(decide (0≤x.G9))) (.dptr [I64 x.G9])) O O ⟨Ha [] O O O .sct ø (fun hc=>Ga G21 O O O) O,ø⟩ (Gd (u:=.opt (((decide (x.Box=0))&&(decide (x.Slot=(Slot.mk 0 0 0))))&&(decide (0≤x.G9))) (I64 x.G9)) O O ⟨Ha [(27,.dptr [I64 x.G9])] O O O .sct ⟨.all id,ø⟩ (fun hc=>Gg Gb O O O) O,ø⟩ (Gd (u:=.opt (((decide (x.Box=0))&&(decide (x.Slot=(Slot.mk 0 0 0))))&&(decide (0≤x.G9))) (.ptr 1207 0)) O O ⟨Ha [] O O O .sct ø (fun hc=>J1 Jf O O O O) O,ø⟩ (Gd (u:=.opt (((decide (x.Box=0))&&(decide (x.Slot=(Slot.mk 0 0 0))))&&(decide (0≤x.G9))) (.ptr 1207 0)) O O ⟨Ha [(29,.ptr 1207 0)] O O O .sct ⟨.all id,ø⟩ (fun hc=>Yp O O) O,ø⟩ (Gd (u:=.opt (((decide (x.Box=0))&&(decide (x.Slot=(Slot.mk 0 0 0))))&&(decide (0≤x.G9))) (.ptr 1207 0)) O O ⟨Ha [(30,.ptr 1207 0)] O O O .sct ⟨.all id,ø⟩ (fun hc=>J4 Ym O O) O,ø⟩ (Gd (u:=.opt (((decide (x.Box=0))&&(decide (x.Slot=(Slot.mk 0 0 0))))&&(decide (0≤x.G9))) (.ptr 1207 1)) O O ⟨Ha [(31,.ptr 1207 0)] O O O .sct ⟨.all id,ø⟩ (fun hc=>J4 Y5 O O) O,ø⟩ (Gd (u:=.opt (((decide (x.Box=0))&&(decide (x.Slot=(Slot.mk 0 0 0))))&&(decide (0≤x.G9))) (E8 m.ship.Covers)) O O ⟨Ha [(32,.ptr 1207 1)] O O O .sct ⟨.all id,ø⟩ (fun hc=>J1 Zt O O O O) O,ø⟩ (Gd (u:=.opt (((decide (x.Box=0))&&(decide (x.Slot=(Slot.mk 0 0 0))))&&(decide (0≤x.G9))) (Em m.ship.Covers.length)) O O ⟨Ha [(33,E8 m.ship.Covers)] O O O .sct ⟨.all id,ø⟩ (fun hc=>H69 (f:=G9.av) (xs:=m.ship.Covers) Qj O O) O,ø⟩ (Gd (u:=.opt (((decide (x.Box=0))&&(decide (x.Slot=(Slot.mk 0 0 0))))&&(decide (0≤x.G9))) (BL (decide (x.G9 < (m.ship.Covers.length:Int))))) O O ⟨Ha [(28,I64 x.G9),(34,Em m.ship.Covers.length)] O O O .sct ⟨.all id,.all id,ø⟩ (fun hc=>Jo O O O) O,ø⟩ (Gd (u:=BL ((((decide (x.Box=0))&&(decide (x.Slot=(Slot.mk 0 0 0))))&&(decide (0≤x.G9)))&&(decide (x.G9 < (m.ship.Covers.length:Int))))) O O ⟨Gh (Y4 O O O O) O,ø⟩ (Gd (u:=.agg [.fn 123 (Eu x m),I64 310]) O O ⟨Gh (Gu O (H37 ((((decide (x.Box=0))&&(decide (x.Slot=(Slot.mk 0 0 0))))&&(decide (0≤x.G9)))&&(decide (x.G9 < (m.ship.Covers.length:Int)))) 310 r5 z) H28 ⟨O,O,O,O,ø⟩) O,ø⟩ (Gd (u:=.ptr 1207 0) O O ⟨Gh (J1 Jf O O O O) O,ø⟩ (Gd (u:=.ptr 1207 0) O O ⟨Gh (Yp O O) O,ø⟩ ?_)))))))))))))
 refine Gd (u:=.ptr 1207 15) O O ⟨Gh (J4 G88 O O) O,ø⟩ (Gd (u:=.mp 1210) O O ⟨Gh (J1 G6e O O O O) O,ø⟩ (Gd (u:=.dptr [I64 x.G9]) O O ⟨Gh (Ga G21 O O O) O,ø⟩ (Gd (u:=I64 x.G9) O O ⟨Gh (Gg Gb O O O) O,ø⟩ (Gd (u:=I64 c) O O ⟨Gh (((M7 a0) ▸ Jbf (av:=I64) (m:=m.open_) (a:=x.G9) 0 E0 (fun _=>O) O (.own O) O J7c Gf2 H3c O)) O,ø⟩ (Gd (u:=BL (decide (0 < c))) O O ⟨Gh (H01 O O O) O,ø⟩ (Gd (u:=BL (decide (x.Kind=1))) O O ⟨Gh (Gg Qb O O O) O,ø⟩ (Gd (u:=BL (!((decide (0 < c))==(decide (x.Kind=1))))) O O ⟨Gh (Rf5 H7b O O O) O,ø⟩ (Gd (u:=.agg [.fn 123 [.dptr [BL (!((decide (0 < c))==(decide (x.Kind=1))))]],I64 311]) O O ⟨Gh (Gu O (H37 (!((decide (0 < c))==(decide (x.Kind=1)))) 311 r7 a1) H28 ⟨O,O,O,O,ø⟩) O,ø⟩ (Gd (u:=.fn 73 (Ev x)) O O ⟨Gh (G6 O O) O,ø⟩ (Gd (u:=.agg [.fn 73 (Ev x),I64 312]) O O ⟨Gh (Hg (cs:=[.fn 73 (Ev x),I64 312]) [(0,1),(1,1)] [.sc .nilFunc,I64 0] [.nilFunc,E0] Zv G1f (zzQ O) O O) O,ø⟩ (D_w (u:=.ms 1076 0 3 3) O O O O (Gh (Q2a 1076 (xs:=[.agg [.fn 123 (Eu x m),I64 310],.agg [.fn 123 [.dptr [BL (!((decide (0 < c))==(decide (x.Kind=1))))]],I64 311],.agg [.fn 73 (Ev x),I64 312]]) (cs:=[.fn 123 (Eu x m),I64 310,.fn 123 [.dptr [BL (!((decide (0 < c))==(decide (x.Kind=1))))]],I64 311,.fn 73 (Ev x),I64 312]) O ⟨O,O,O,ø⟩ O H04 H70 O O O O O) O) ?_)))))))))))
 refine Gd (u:=I64 d) O O ⟨Gh (G69 O (Qdb.down [J3.mk 123 (Eu x m) (Yx ((((decide (x.Box=0))&&(decide (x.Slot=(Slot.mk 0 0 0))))&&(decide (0≤x.G9)))&&(decide (x.G9 < (m.ship.Covers.length:Int))))) 310 Gf3 O (fun q hq=>Gbd ((((decide (x.Box=0))&&(decide (x.Slot=(Slot.mk 0 0 0))))&&(decide (0≤x.G9)))&&(decide (x.G9 < (m.ship.Covers.length:Int)))) q hq),
 J3.mk 123 [.dptr [BL (!((decide (0 < c))==(decide (x.Kind=1))))]] (Yx (!((decide (0 < c))==(decide (x.Kind=1))))) 311 Gf3 rfl (fun q hq=>Gbd (!((decide (0 < c))==(decide (x.Kind=1)))) q hq),
 J3.mk 73 [.dptr [BL (decide (x.Kind=1))],.dptr [.dptr (Gc.cs m)],Ef x] (G0c (decide (x.Kind=1)) m (Move.mk x.Kind x.Box x.Slot x.G9)) 312 Y17 rfl (fun q hq=>J82 (decide (x.Kind=1)) m (Move.mk x.Kind x.Box x.Slot x.G9) q hq)] d a2) J9c ⟨.msL rfl rfl rfl ⟨.data O O,.data O O,.data O O,.data O O,.fnL ⟨.data O O,.ptrL rfl ⟨.ptrL rfl (dnQ 13 O O ⟨.mp rfl,.mp rfl,.mp rfl,.data O O,trivial⟩),trivial⟩,.data O O,trivial⟩,.data O O,trivial⟩,trivial⟩ rfl) rfl,trivial⟩ ?_ rfl
 refine Gd (u:=I64 d) O O ⟨Gh (G7 O O) O,ø⟩ (Rj (y (Js fun a3=>Jr fun i=>(JLm (I64 d) O (JLh (BL (decide (d≠0))) (Gca O O O) O (G5 (i (JCc O h (fun h hb=>?_) (fun h hb=>?_)))))))))
 ·
  refine Jr fun j=>(JLm (I64 d) O (JLm (I64 d) O (G5 (j (Gs ?_)))))
  obtain rfl:=M7 h
  exact⟨[I64 d],[(1207,.box 94 (Es m)),(1208,TP 90 Slot.kv Box.av m.on),(1209,TP 91 Ks Box.av m.quay),(1210,TP 92 Ks I64 m.open_)],⟨fbQ O (.sm O O),fmQ O,fmQ O,fmQ O,ø⟩,rfl,⟨⟨_,rfl,.conv (.same rfl)⟩,ø⟩,rfl,rfl⟩
 ·
  refine Gm (a3 ?_)
  obtain⟨k,g,h⟩:=Rm h
  refine Qi (fun b:Gc=>k b=some r) (fun b=>[]) (fun b=>[(1207,.box 94 (Ew b)),(1208,TP 90 Slot.kv Box.av b.on),(1209,TP 91 Ks Box.av b.quay),(1210,TP 92 Ks I64 b.open_),(1073,.box 52 [.ptr 1207 0]),(1076,.box 151 [.fn 123 (Eu x m),I64 310,.fn 123 [.dptr [BL (!((decide (0 < c))==(decide (x.Kind=1))))]],I64 311,.fn 73 (Ev x),I64 312])]) (fun Kj12 ej12=>?_) ?_
  ·
   refine Jr fun l=>(JLh (BL (decide (x.Kind=1))) (Gg Qb O O O) O (G5 (l (JCc O h (fun h hb=>?_) (fun h hb=>?_)))))
   ·
    refine Qs (l':=[(2,.ptr 1073 0),(3,Ef x)]) (L':=[(1207,.box 94 (Es m)),(1208,TP 90 Slot.kv Box.av m.on),(1209,TP 91 Ks Box.av m.quay),(1210,TP 92 Ks I64 m.open_),(1073,.box 52 [.ptr 1207 0]),(1076,.box 151 [.fn 123 (Eu x m),I64 310,.fn 123 [.dptr [BL (!((decide (0 < c))==(decide (x.Kind=1))))]],I64 311,.fn 73 (Ev x),I64 312])]) ⟨(.sm O O),⟨fbQ O (.sm O O),fmQ O,fmQ O,fmQ O,fbQ O ⟨.same rfl,ø⟩,fbQ O (.sm O O),ø⟩,rfl⟩ ?_
    obtain⟨a4,n,h⟩:=Ge h
    obtain⟨e,o,h⟩:=J0 h
    refine Jq [8] [0,0,0,0,0,0,0,0,0] [0,0,0,0,0,0,0,0,0] [[(1207,.box 94 (Es m)),(1208,TP 90 Slot.kv Box.av m.on),(1209,TP 91 Ks Box.av m.quay),(1210,TP 92 Ks I64 m.open_),(1073,.box 52 [.ptr 1207 0]),(1076,.box 151 [.fn 123 (Eu x m),I64 310,.fn 123 [.dptr [BL (!((decide (0 < c))==(decide (x.Kind=1))))]],I64 311,.fn 73 (Ev x),I64 312])],((1210,TP 92 Ks I64 (Gv.put m.open_ x.G9 e))::[(1207,.box 94 (Es m)),(1208,TP 90 Slot.kv Box.av m.on),(1209,TP 91 Ks Box.av m.quay),(1210,TP 92 Ks I64 m.open_),(1073,.box 52 [.ptr 1207 0]),(1076,.box 151 [.fn 123 (Eu x m),I64 310,.fn 123 [.dptr [BL (!((decide (0 < c))==(decide (x.Kind=1))))]],I64 311,.fn 73 (Ev x),I64 312])])] J9 (by kernel_rfl) rfl rfl ?_
    refine Gd (u:=.ptr 1207 0) O O ⟨Gh (J1 Jf O O O O) O,ø⟩ (Gd (u:=.ptr 1207 0) O O ⟨Gh (Yp O O) O,ø⟩ (Gd (u:=.ptr 1207 15) O O ⟨Gh (J4 G88 O O) O,ø⟩ (Gd (u:=.mp 1210) O O ⟨Gh (J1 G6e O O O O) O,ø⟩ (Gd (u:=.dptr [I64 x.G9]) O O ⟨Gh (Ga G21 O O O) O,ø⟩ (Gd (u:=I64 x.G9) O O ⟨Gh (Gg Gb O O O) O,ø⟩ (Gd (u:=I64 a4) O O ⟨Gh (((M7 n) ▸ Jbf (av:=I64) (m:=m.open_) (a:=x.G9) 0 E0 (fun _=>O) O (.own O) O J7c Gf2 H3c O)) O,ø⟩ (Gd (u:=I64 e) O O ⟨Gh (Ja o O O O) O,ø⟩ (H3a (u:=.junk) O O O O (Gh (H1e (m:=m.open_) (a:=x.G9) (v:=e) (fun _=>O) O O O O O O J7c Gf2) O) (Rj ?_)))))))))
    exact ej12 _ _ (Gc.mk m.ship m.on m.quay (Gv.put m.open_ x.G9 e) m.lifts) h ⟨ø,⟨fbQ O (.sm O O),fmQ O,fmQ O,fmQ O,fbQ O ⟨.same rfl,ø⟩,fbQ O (.sm O O),ø⟩,rfl⟩
   ·
    refine Qs (l':=[(2,.ptr 1073 0),(3,Ef x)]) (L':=[(1207,.box 94 (Es m)),(1208,TP 90 Slot.kv Box.av m.on),(1209,TP 91 Ks Box.av m.quay),(1210,TP 92 Ks I64 m.open_),(1073,.box 52 [.ptr 1207 0]),(1076,.box 151 [.fn 123 (Eu x m),I64 310,.fn 123 [.dptr [BL (!((decide (0 < c))==(decide (x.Kind=1))))]],I64 311,.fn 73 (Ev x),I64 312])]) ⟨(.sm O O),⟨fbQ O (.sm O O),fmQ O,fmQ O,fmQ O,fbQ O ⟨.same rfl,ø⟩,fbQ O (.sm O O),ø⟩,rfl⟩ ?_
    refine Jq [6] [0,0,0,0,0,0,0] [0,0,0,0,0,0,0] [[(1207,.box 94 (Es m)),(1208,TP 90 Slot.kv Box.av m.on),(1209,TP 91 Ks Box.av m.quay),(1210,TP 92 Ks I64 m.open_),(1073,.box 52 [.ptr 1207 0]),(1076,.box 151 [.fn 123 (Eu x m),I64 310,.fn 123 [.dptr [BL (!((decide (0 < c))==(decide (x.Kind=1))))]],I64 311,.fn 73 (Ev x),I64 312])],((1210,TP 92 Ks I64 (Gv.del m.open_ x.G9))::[(1207,.box 94 (Es m)),(1208,TP 90 Slot.kv Box.av m.on),(1209,TP 91 Ks Box.av m.quay),(1210,TP 92 Ks I64 m.open_),(1073,.box 52 [.ptr 1207 0]),(1076,.box 151 [.fn 123 (Eu x m),I64 310,.fn 123 [.dptr [BL (!((decide (0 < c))==(decide (x.Kind=1))))]],I64 311,.fn 73 (Ev x),I64 312])])] J9 (by kernel_rfl) rfl rfl ?_
    refine Gd (u:=.ptr 1207 0) O O ⟨Gh (J1 Jf O O O O) O,ø⟩ (Gd (u:=.ptr 1207 0) O O ⟨Gh (Yp O O) O,ø⟩ (Gd (u:=.ptr 1207 15) O O ⟨Gh (J4 G88 O O) O,ø⟩ (Gd (u:=.mp 1210) O O ⟨Gh (J1 G6e O O O O) O,ø⟩ (Gd (u:=.dptr [I64 x.G9]) O O ⟨Gh (Ga G21 O O O) O,ø⟩ (Gd (u:=I64 x.G9) O O ⟨Gh (Gg Gb O O O) O,ø⟩ (H3a (u:=.tup []) O O O O (Gh (J1b (m:=m.open_) (a:=x.G9) (fun _=>O) O O O O J7c Gf2) O) (Rj (ej12 _ _ (Gc.mk m.ship m.on m.quay (Gv.del m.open_ x.G9) m.lifts) h ⟨ø,⟨fbQ O (.sm O O),fmQ O,fmQ O,fmQ O,fbQ O ⟨.same rfl,ø⟩,fbQ O (.sm O O),ø⟩,rfl⟩))))))))
  ·intro b h
   replace h:=app1 g h
   refine Jr fun p=>(JLm (I64 0) O (G5 (p (Gs ?_))))
   obtain rfl:=M7 h
   exact⟨[I64 0],[(1207,.box 94 (Ew b)),(1208,TP 90 Slot.kv Box.av b.on),(1209,TP 91 Ks Box.av b.quay),(1210,TP 92 Ks I64 b.open_)],⟨fbQ O (.sm O O),fmQ O,fmQ O,fmQ O,ø⟩,rfl,⟨⟨_,rfl,.conv (.same rfl)⟩,ø⟩,rfl,rfl⟩

def G44 (y:Slot) (a:Move):Option Bool:=
 bnd (Gfd y a.Slot) fun b=>
 some b
theorem J81 (y:Slot) (a:Move) (r:Bool) (h:G44 y a=some r):Pure En 79 [.agg [I64 y.G3,I64 y.Tier,U8 y.Half],Ef a] (·=BL r):=by
 unfold G44 at h
 refine Gx [.tmp 3] Tryz.func79 O O (Jr fun c=>(JLh (.ptr 1148 0) (Q4 (cs:=[I64 y.G3,I64 y.Tier,U8 y.Half]) 1148 O O O O O) O (JLm (BL false) O (G5 (c (Gn [(1,Ef a),(2,.dptr [I64 y.G3,I64 y.Tier,U8 y.Half])] [] 1148 rfl rfl rfl ø rfl (by exact⟨.conv (.same rfl),.ptr,ø⟩) (Jr fun d=>(JLh (.agg [I64 y.G3,I64 y.Tier,U8 y.Half]) (Gk J2 O O O) O (JLh (.dptr ((Move.cs a).drop 2)) (Ga Qt O O O) O (JLh (.agg (Slot.cs a.Slot)) (Gk J2 O O O) O ?_))))))))))
 obtain⟨b,e,h⟩:=Ge h
 refine JLh (BL b) (Gu O (J90 y a.Slot b e) Q9e ⟨O,O,O,O,ø⟩) O (JLm (BL b) O (G5 (d (Gs (fin1 BL h)))))

def G7d (a:Gc) (b:Move):Option Bool:=
 bnd (Zy a (fun z0=>G44 z0 b)) fun c=>
 some (!c)
theorem Jef (d:Gc) (a:Move) (r:Bool) (h:G7d d a=some r):Pure En 78 [.dptr [.dptr (Gc.cs d)],Ef a] (·=BL r):=by
 unfold G7d at h
 refine Gx [.tmp 2] Tryz.func78 O O (Jr fun e=>(JLm (BL false) O (G5 (e (Jr fun f=>(JLh (Eg d) (Gg Jf O O O) O (JLh (.fn 79 [.dptr (Move.cs a)]) (Q2 (cs:=[.dptr (Move.cs a)]) O O) O ?_)))))))
 obtain⟨c,g,h⟩:=Ge h
 refine JLh (BL c) (Gu O (H66.down d (fun z0=>G44 z0 a) 79 [.dptr (Move.cs a)] Y14 O (fun z0 q hq=>J81 z0 a q hq) c g) J9d ⟨O,O,O,O,ø⟩) O (JLh (BL (!c)) (Y8 (b:=c) O O) O (JLm (BL (!c)) O (G5 (f (Gs (fin1 BL h))))))

def G7c (a:Gc) (b:Move):Option Bool:=
 Qw a.ship.Columns b.Slot.G3 fun c=>
 bnd (bif (!c.Deck) then G5c a b.Slot else some default) fun d=>
 some (c.Deck||(!d))
theorem Jee (a:Gc) (c:Move) (r:Bool) (h:G7c a c=some r):Pure En 80 [.dptr [.dptr (Gc.cs a)],Ef c] (·=BL r):=by
 unfold G7c at h
 refine Gx [.tmp 2] Tryz.func80 O O (Jr fun g=>(JLm (BL false) O (G5 (g (Js fun i=>?_)))))
 obtain⟨m,d,j,k,h⟩:=Yc h
 obtain⟨e,l,h⟩:=Ge h
 refine JC_d0 J9 (by kernel_rfl) (Dq (Eg a) (Gg Jf O O O) O (Dq (Eg a) (G78 O O) O (Dq (Eg a) (Ga Ym O O O) O (Dq (Eg a) (Ga J8 O O O) O (Dq (E3 a.ship.Columns) (Gg Jp O O O) O (Dq (.dptr ((Move.cs c).drop 2)) (Ga Qt O O O) O (Dq (.dptr ((Move.cs c).drop 2)) (Ga J7 O O O) O (Dq (I64 c.Slot.G3) (Gg Gb O O O) O (Dq (Ej d) (Hb (f:=G3.av) (xs:=a.ship.Columns) (y:=d) O O O Hy k j) O (Dq (.dptr ((G3.cs d).drop 2)) (Ga Yj O O O) O (Dq (BL d.Deck) (Gg Qb O O O) O (Dq (BL d.Deck) (G6 O O) O (Do (Eg a) [] O .scf ø (fun hc=>Gg Jf O O O) O ?_)))))))))))))
 refine Do (.dptr ((Move.cs c).drop 2)) [] O .scf ø (fun hc=>Ga Qt O O O) O (Do (.agg (Slot.cs c.Slot)) [16] O .scf ⟨Ua,ø⟩ (fun hc=>Gk J2 O O O) O (Do (BL e) [15,17] O .scf ⟨Ua,Ua,ø⟩ (fun hc=>Gu (args:=[.dptr (Gc.cs a),.agg (Slot.cs c.Slot)]) O (Hea a c.Slot e (H4 hc l)) Q9d ⟨O,O,O,O,ø⟩) O (Do (BL (!e)) [18] O .scf ⟨Ua,ø⟩ (fun hc=>Y8 (b:=e) O O) O (Dq (BL (d.Deck||(!e))) (G94 O O O O) O (Dq (BL (d.Deck||(!e))) (G7 O O) O (Dnil (i (Gs (fin1 BL h)))))))))

def Gda (m:Gc) (x:Move):Option (Int×Gc):=
 bnd (some (Gv.get m.on x.Slot (Box.mk 0 ByteArray.empty 0 false 0 0 0 0 false))) fun a=>
 bnd (H5b (decide (x.G9=0)) 310) fun d=>
 bnd (H5b ((Gv.has m.on x.Slot)&&(decide (a.ID=x.Box))) 313) fun e=>
 bnd (H43 [(Yx (decide (x.G9=0)),310),
  (Yx ((Gv.has m.on x.Slot)&&(decide (a.ID=x.Box))),313),
  (G7d m (Move.mk x.Kind x.Box x.Slot x.G9),314),
  (G7c m (Move.mk x.Kind x.Box x.Slot x.G9),315)]) fun b=>
 bif decide (b≠0) then
 (some (b,m))
 else
 (chk (m.lifts+1) fun c=>
  some (0,(Gc.mk m.ship (Gv.del m.on x.Slot) (Gv.put m.quay a.ID a) m.open_ c)))
abbrev Ex (m:Gc):List AV:=[E3 m.ship.Columns,E8 m.ship.Covers,I64 m.ship.Light.Kilos,I64 m.ship.Light.X,I64 m.ship.Light.Y,I64 m.ship.Light.Z,E4 m.ship.Rows,E5 m.ship.Frames,E6 m.ship.Tanks,I64 m.ship.G8.Tolerance,I64 m.ship.G8.Trim,I64 m.ship.G8.List_,I64 m.ship.G8.Stability,.mp 1208,.mp 1209,.mp 1210,I64 m.lifts]
theorem Q6b (m:Gc) (x:Move) (r:Int×Gc) (h:Gda m x=some r):J5 En 42 [.ptr 1207 0,.agg (Move.cs x)] [(1207,.box 94 [E3 m.ship.Columns,E8 m.ship.Covers,I64 m.ship.Light.Kilos,I64 m.ship.Light.X,I64 m.ship.Light.Y,I64 m.ship.Light.Z,E4 m.ship.Rows,E5 m.ship.Frames,E6 m.ship.Tanks,I64 m.ship.G8.Tolerance,I64 m.ship.G8.Trim,I64 m.ship.G8.List_,I64 m.ship.G8.Stability,.mp 1208,.mp 1209,.mp 1210,I64 m.lifts]),(1208,TP 90 Slot.kv Box.av m.on),(1209,TP 91 Ks Box.av m.quay),(1210,TP 92 Ks I64 m.open_)] (fun av L'=>av=I64 r.1∧L'=[(1207,.box 94 [E3 r.2.ship.Columns,E8 r.2.ship.Covers,I64 r.2.ship.Light.Kilos,I64 r.2.ship.Light.X,I64 r.2.ship.Light.Y,I64 r.2.ship.Light.Z,E4 r.2.ship.Rows,E5 r.2.ship.Frames,E6 r.2.ship.Tanks,I64 r.2.ship.G8.Tolerance,I64 r.2.ship.G8.Trim,I64 r.2.ship.G8.List_,I64 r.2.ship.G8.Stability,.mp 1208,.mp 1209,.mp 1210,I64 r.2.lifts]),(1208,TP 90 Slot.kv Box.av r.2.on),(1209,TP 91 Ks Box.av r.2.quay),(1210,TP 92 Ks I64 r.2.open_)]):=by
 unfold Gda at h
 refine Jk [1207,1208,1209,1210] [.tmp 4] Tryz.func42 O O (G18 O) (Jr fun n=>(JLh (.ptr 1077 0) (Q4 (cs:=[.ptr 1207 0]) 1077 O O O O O) O (JLh (.ptr 1078 0) (Q4 (cs:=[U8 x.Kind,I64 x.Box,I64 x.Slot.G3,I64 x.Slot.Tier,U8 x.Slot.Half,I64 x.G9]) 1078 O O O O O) O (JLm (I64 0) O (G5 (n ?_))))))
 refine Gn [(2,.ptr 1077 0),(3,Ef x)] [(1207,.box 94 (Ex m)),(1208,TP 90 Slot.kv Box.av m.on),(1209,TP 91 Ks Box.av m.quay),(1210,TP 92 Ks I64 m.open_),(1077,.box 52 [.ptr 1207 0])] 1078 rfl rfl rfl ⟨⟨_,rfl,.boxEq rfl rfl⟩,fmQ O,fmQ O,fmQ O,⟨_,rfl,.boxEq rfl rfl⟩,ø⟩ rfl (by exact⟨.conv (.same rfl),.ptr,ø⟩) ?_
 refine Js fun o=>?_
 refine Qs (l':=[(2,.ptr 1077 0),(3,Ef x)]) (L':=[(1207,.box 94 (Ex m)),(1208,TP 90 Slot.kv Box.av m.on),(1209,TP 91 Ks Box.av m.quay),(1210,TP 92 Ks I64 m.open_),(1077,.box 52 [.ptr 1207 0])]) ⟨(.sm O O),⟨fbQ O (.sm O O),fmQ O,fmQ O,fmQ O,fbQ O ⟨.same rfl,ø⟩,ø⟩,rfl⟩ ?_
 obtain⟨b,e,h⟩:=Ge h
 refine Jq [10,11] [0,0,0,0,0,0,0,0,0,0,0,0,2] [1,1,1,1,1,1,1,1,1,2,0,0,2] [[(1207,.box 94 (Ex m)),(1208,TP 90 Slot.kv Box.av m.on),(1209,TP 91 Ks Box.av m.quay),(1210,TP 92 Ks I64 m.open_),(1077,.box 52 [.ptr 1207 0])],((1079,.box 103 [.junk,.junk,.junk,.junk,.junk,.junk,.junk,.junk,.junk])::[(1207,.box 94 (Ex m)),(1208,TP 90 Slot.kv Box.av m.on),(1209,TP 91 Ks Box.av m.quay),(1210,TP 92 Ks I64 m.open_),(1077,.box 52 [.ptr 1207 0])]),((1079,.box 103 (Box.cs b))::((1079,.box 103 [.junk,.junk,.junk,.junk,.junk,.junk,.junk,.junk,.junk])::[(1207,.box 94 (Ex m)),(1208,TP 90 Slot.kv Box.av m.on),(1209,TP 91 Ks Box.av m.quay),(1210,TP 92 Ks I64 m.open_),(1077,.box 52 [.ptr 1207 0])]))] J9 (by kernel_rfl) rfl rfl ?_
 refine Gd (u:=.ptr 1207 0) O O ⟨Gh (J1 Jf O O O O) O,Gh (J1 Jf O O O O) O,ø⟩ (Gd (u:=.ptr 1207 0) O O ⟨Gh (Yp O O) O,Gh (Yp O O) O,ø⟩ (Gd (u:=.ptr 1207 13) O O ⟨Gh (J4 Yk O O) O,Gh (J4 Yk O O) O,ø⟩ (Gd (u:=.mp 1208) O O ⟨Gh (J1 Yr O O O O) O,Gh (J1 Yr O O O O) O,ø⟩ (Gd (u:=.dptr ((Move.cs x).drop 2)) O O ⟨Gh (Ga Qt O O O) O,Gh (Ga Qt O O O) O,ø⟩ (Gd (u:=.agg (Slot.cs x.Slot)) O O ⟨Gh (Gk J2 O O O) O,Gh (Gk J2 O O O) O,ø⟩ (Gd (u:=.tup [.agg (Box.cs b),BL (Gv.has m.on x.Slot)]) O O ⟨Gh (((M7 e) ▸ J1c (av:=Box.av) (m:=m.on) (a:=x.Slot) (Box.mk 0 ByteArray.empty 0 false 0 0 0 0 false) (.agg #[E0,.string ByteArray.empty,.int .u8 0,.bool false,E0,E0,E0,.int .u8 0,.bool false]) (fun _=>O) O (.own O) O R90 G86 J5e O)) O,Gh (((M7 e) ▸ J1c (av:=Box.av) (m:=m.on) (a:=x.Slot) (Box.mk 0 ByteArray.empty 0 false 0 0 0 0 false) (.agg #[E0,.string ByteArray.empty,.int .u8 0,.bool false,E0,E0,E0,.int .u8 0,.bool false]) (fun _=>O) O (.own O) O R90 G86 J5e O)) O,ø⟩ (Gd (u:=.tup [.agg (Box.cs b),BL (Gv.has m.on x.Slot)]) O O ⟨Gh (G6 O O) O,Gh (G6 O O) O,ø⟩ (Gd (u:=.agg (Box.cs b)) O O ⟨Gh (Gz O O O) O,Gh (Gz O O O) O,ø⟩ (Gd (u:=BL (Gv.has m.on x.Slot)) O O ⟨Gh (Gz O O O) O,Gh (Gz O O O) O,Gh (Gz O O O) O,ø⟩ (D_w (u:=.ptr 1079 0) O O O O (Gh (Hk 1079 9 Qx O O) O) (H3a (u:=.junk) O O O O (Gh (H7 (u:=.agg (Box.cs b)) (ds:=(Box.cs b)) Rh O O O O O O O O) O) (Gd (u:=BL (Gv.has m.on x.Slot)) O O ⟨Gh (G7 O O) O,ø⟩ (Rj ?_)))))))))))))
 refine o ?_
 refine fzQ [(2,.ptr 1077 0),(3,Ef x),(5,Ei b),(6,BL (Gv.has m.on x.Slot))] [(1207,.box 94 (Ex m)),(1208,TP 90 Slot.kv Box.av m.on),(1209,TP 91 Ks Box.av m.quay),(1210,TP 92 Ks I64 m.open_),(1077,.box 52 [.ptr 1207 0])] 1079 rfl rfl rfl ⟨⟨_,rfl,.boxEq rfl rfl⟩,fmQ O,fmQ O,fmQ O,⟨_,rfl,.boxEq rfl rfl⟩,ø⟩ rfl ?_
 refine Jr fun p=>(JLh (.dptr [I64 x.G9]) (Ga G21 O O O) O (JLh (I64 x.G9) (Gg Gb O O O) O (JLh (BL (decide (x.G9=0))) (Qk O O O) O ?_)))
 obtain⟨r5,s,h⟩:=Ge h
 refine JLh (.agg [.fn 123 [.dptr [BL (decide (x.G9=0))]],I64 310]) (Gu O (H37 (decide (x.G9=0)) 310 r5 s) H28 ⟨O,O,O,O,ø⟩) O (JLm (BL (Gv.has m.on x.Slot)) O (JLm (BL (Gv.has m.on x.Slot)) O (JLo (Ei b) [] O .sct ø (fun hc=>Ga Qp O O O) O (JLo (I64 b.ID) [24] O .sct ⟨Ua,ø⟩ (fun hc=>Gg Gb O O O) O (JLo (.dptr ((Move.cs x).drop 1)) [] O .sct ø (fun hc=>Ga G49 O O O) O (JLo (I64 x.Box) [26] O .sct ⟨Ua,ø⟩ (fun hc=>Gg Gb O O O) O (JLo (BL (decide (b.ID=x.Box))) [25,27] O .sct ⟨Ua,Ua,ø⟩ (fun hc=>Qk O O O) O (JLh (BL ((Gv.has m.on x.Slot)&&(decide (b.ID=x.Box)))) (Y4 O O O O) O ?_))))))))
 obtain⟨r6,t,h⟩:=Ge h
 refine JLh (.agg [.fn 123 [.dptr [BL ((Gv.has m.on x.Slot)&&(decide (b.ID=x.Box)))]],I64 313]) (Gu O (H37 ((Gv.has m.on x.Slot)&&(decide (b.ID=x.Box))) 313 r6 t) H28 ⟨O,O,O,O,ø⟩) O (JLh (.fn 78 [.ptr 1077 0,Ef x]) (Q2 (cs:=[.ptr 1077 0,Ef x]) O O) O (JLh (.agg [.fn 78 [.ptr 1077 0,Ef x],I64 314]) (Hg (cs:=[.fn 78 [.ptr 1077 0,Ef x],I64 314]) [(0,1),(1,1)] [.sc .nilFunc,I64 0] [.nilFunc,E0] Zv G1f (zzQ O) O O) O (JLh (.fn 80 [.ptr 1077 0,Ef x]) (Q2 (cs:=[.ptr 1077 0,Ef x]) O O) O (JLh (.agg [.fn 80 [.ptr 1077 0,Ef x],I64 315]) (Hg (cs:=[.fn 80 [.ptr 1077 0,Ef x],I64 315]) [(0,1),(1,1)] [.sc .nilFunc,I64 0] [.nilFunc,E0] Zv G1f (zzQ O) O O) O (JLh (.ms 1080 0 4 4) (Q2a 1080 (xs:=[.agg [.fn 123 [.dptr [BL (decide (x.G9=0))]],I64 310],.agg [.fn 123 [.dptr [BL ((Gv.has m.on x.Slot)&&(decide (b.ID=x.Box)))]],I64 313],.agg [.fn 78 [.ptr 1077 0,Ef x],I64 314],.agg [.fn 80 [.ptr 1077 0,Ef x],I64 315]]) (cs:=[.fn 123 [.dptr [BL (decide (x.G9=0))]],I64 310,.fn 123 [.dptr [BL ((Gv.has m.on x.Slot)&&(decide (b.ID=x.Box)))]],I64 313,.fn 78 [.ptr 1077 0,Ef x],I64 314,.fn 80 [.ptr 1077 0,Ef x],I64 315]) O ⟨O,O,O,O,ø⟩ O H04 H70 O O O O O) O ?_)))))
 obtain⟨c,w,h⟩:=Ge h
 refine JLg (I64 c) (G69 O (Qdb.down [J3.mk 123 [.dptr [BL (decide (x.G9=0))]] (Yx (decide (x.G9=0))) 310 Gf3 O (fun q hq=>Gbd (decide (x.G9=0)) q hq),
 J3.mk 123 [.dptr [BL ((Gv.has m.on x.Slot)&&(decide (b.ID=x.Box)))]] (Yx ((Gv.has m.on x.Slot)&&(decide (b.ID=x.Box)))) 313 Gf3 rfl (fun q hq=>Gbd ((Gv.has m.on x.Slot)&&(decide (b.ID=x.Box))) q hq),
 J3.mk 78 [.dptr [.dptr (Gc.cs m)],Ef x] (G7d m (Move.mk x.Kind x.Box x.Slot x.G9)) 314 Y15 rfl (fun q hq=>Jef m (Move.mk x.Kind x.Box x.Slot x.G9) q hq),
 J3.mk 80 [.dptr [.dptr (Gc.cs m)],Ef x] (G7c m (Move.mk x.Kind x.Box x.Slot x.G9)) 315 Y13 rfl (fun q hq=>Jee m (Move.mk x.Kind x.Box x.Slot x.G9) q hq)] c w) J9c ⟨.msL rfl rfl rfl ⟨.data O O,.data O O,.data O O,.data O O,.fnL ⟨.ptrL rfl ⟨.ptrL rfl (dnQ 13 O O ⟨.mp rfl,.mp rfl,.mp rfl,.data O O,trivial⟩),trivial⟩,.data O O,trivial⟩,.data O O,.fnL ⟨.ptrL rfl ⟨.ptrL rfl (dnQ 13 O O ⟨.mp rfl,.mp rfl,.mp rfl,.data O O,trivial⟩),trivial⟩,.data O O,trivial⟩,.data O O,trivial⟩,trivial⟩ rfl) ?_ rfl rfl rfl
 refine JLm (I64 c) O (G5 (p (Js fun y=>Jr fun z=>(JLm (I64 c) O (JLh (BL (decide (c≠0))) (Gca O O O) O (G5 (z (JCc O h (fun h hb=>?_) (fun h hb=>?_)))))))))
 ·
  refine Jr fun f=>(JLm (I64 c) O (JLm (I64 c) O (G5 (f (Gs ?_)))))
  obtain rfl:=M7 h
  exact⟨[I64 c],[(1207,.box 94 (Ex m)),(1208,TP 90 Slot.kv Box.av m.on),(1209,TP 91 Ks Box.av m.quay),(1210,TP 92 Ks I64 m.open_)],⟨fbQ O (.sm O O),fmQ O,fmQ O,fmQ O,ø⟩,rfl,⟨⟨_,rfl,.conv (.same rfl)⟩,ø⟩,rfl,rfl⟩
 ·
  refine Gm (y (Js fun g=>?_))
  refine Qs (l':=[(2,.ptr 1077 0),(3,Ef x),(5,Ei b)]) (L':=[(1207,.box 94 (Ex m)),(1208,TP 90 Slot.kv Box.av m.on),(1209,TP 91 Ks Box.av m.quay),(1210,TP 92 Ks I64 m.open_),(1077,.box 52 [.ptr 1207 0]),(1080,.box 151 [.fn 123 [.dptr [BL (decide (x.G9=0))]],I64 310,.fn 123 [.dptr [BL ((Gv.has m.on x.Slot)&&(decide (b.ID=x.Box)))]],I64 313,.fn 78 [.ptr 1077 0,Ef x],I64 314,.fn 80 [.ptr 1077 0,Ef x],I64 315])]) ⟨(.sm O O),⟨fbQ O (.sm O O),fmQ O,fmQ O,fmQ O,fbQ O ⟨.same rfl,ø⟩,fbQ O (.sm O O),ø⟩,rfl⟩ ?_
  refine Jq [6] [0,0,0,0,0,0,0] [0,0,0,0,0,0,0] [[(1207,.box 94 (Ex m)),(1208,TP 90 Slot.kv Box.av m.on),(1209,TP 91 Ks Box.av m.quay),(1210,TP 92 Ks I64 m.open_),(1077,.box 52 [.ptr 1207 0]),(1080,.box 151 [.fn 123 [.dptr [BL (decide (x.G9=0))]],I64 310,.fn 123 [.dptr [BL ((Gv.has m.on x.Slot)&&(decide (b.ID=x.Box)))]],I64 313,.fn 78 [.ptr 1077 0,Ef x],I64 314,.fn 80 [.ptr 1077 0,Ef x],I64 315])],((1208,TP 90 Slot.kv Box.av (Gv.del m.on x.Slot))::[(1207,.box 94 (Ex m)),(1208,TP 90 Slot.kv Box.av m.on),(1209,TP 91 Ks Box.av m.quay),(1210,TP 92 Ks I64 m.open_),(1077,.box 52 [.ptr 1207 0]),(1080,.box 151 [.fn 123 [.dptr [BL (decide (x.G9=0))]],I64 310,.fn 123 [.dptr [BL ((Gv.has m.on x.Slot)&&(decide (b.ID=x.Box)))]],I64 313,.fn 78 [.ptr 1077 0,Ef x],I64 314,.fn 80 [.ptr 1077 0,Ef x],I64 315])])] J9 (by kernel_rfl) rfl rfl ?_
  refine Gd (u:=.ptr 1207 0) O O ⟨Gh (J1 Jf O O O O) O,ø⟩ (Gd (u:=.ptr 1207 0) O O ⟨Gh (Yp O O) O,ø⟩ (Gd (u:=.ptr 1207 13) O O ⟨Gh (J4 Yk O O) O,ø⟩ (Gd (u:=.mp 1208) O O ⟨Gh (J1 Yr O O O O) O,ø⟩ (Gd (u:=.dptr ((Move.cs x).drop 2)) O O ⟨Gh (Ga Qt O O O) O,ø⟩ (Gd (u:=.agg (Slot.cs x.Slot)) O O ⟨Gh (Gk J2 O O O) O,ø⟩ (H3a (u:=.tup []) O O O O (Gh (J1b (m:=m.on) (a:=x.Slot) (fun _=>O) O O O O R90 G86) O) (Rj (g (Js fun i=>?_)))))))))
  refine Qs (l':=[(2,.ptr 1077 0),(5,Ei b)]) (L':=[(1207,.box 94 (Ex m)),(1208,TP 90 Slot.kv Box.av (Gv.del m.on x.Slot)),(1209,TP 91 Ks Box.av m.quay),(1210,TP 92 Ks I64 m.open_),(1077,.box 52 [.ptr 1207 0]),(1080,.box 151 [.fn 123 [.dptr [BL (decide (x.G9=0))]],I64 310,.fn 123 [.dptr [BL ((Gv.has m.on x.Slot)&&(decide (b.ID=x.Box)))]],I64 313,.fn 78 [.ptr 1077 0,Ef x],I64 314,.fn 80 [.ptr 1077 0,Ef x],I64 315])]) ⟨(.sm O O),⟨fbQ O (.sm O O),fmQ O,fmQ O,fmQ O,fbQ O ⟨.same rfl,ø⟩,fbQ O (.sm O O),ø⟩,rfl⟩ ?_
  refine Jq [7] [0,0,0,0,0,0,0,0] [0,0,0,0,0,0,0,0] [[(1207,.box 94 (Ex m)),(1208,TP 90 Slot.kv Box.av (Gv.del m.on x.Slot)),(1209,TP 91 Ks Box.av m.quay),(1210,TP 92 Ks I64 m.open_),(1077,.box 52 [.ptr 1207 0]),(1080,.box 151 [.fn 123 [.dptr [BL (decide (x.G9=0))]],I64 310,.fn 123 [.dptr [BL ((Gv.has m.on x.Slot)&&(decide (b.ID=x.Box)))]],I64 313,.fn 78 [.ptr 1077 0,Ef x],I64 314,.fn 80 [.ptr 1077 0,Ef x],I64 315])],((1209,TP 91 Ks Box.av (Gv.put m.quay b.ID b))::[(1207,.box 94 (Ex m)),(1208,TP 90 Slot.kv Box.av (Gv.del m.on x.Slot)),(1209,TP 91 Ks Box.av m.quay),(1210,TP 92 Ks I64 m.open_),(1077,.box 52 [.ptr 1207 0]),(1080,.box 151 [.fn 123 [.dptr [BL (decide (x.G9=0))]],I64 310,.fn 123 [.dptr [BL ((Gv.has m.on x.Slot)&&(decide (b.ID=x.Box)))]],I64 313,.fn 78 [.ptr 1077 0,Ef x],I64 314,.fn 80 [.ptr 1077 0,Ef x],I64 315])])] J9 (by kernel_rfl) rfl rfl ?_
  refine Gd (u:=.ptr 1207 0) O O ⟨Gh (J1 Jf O O O O) O,ø⟩ (Gd (u:=.ptr 1207 0) O O ⟨Gh (Yp O O) O,ø⟩ (Gd (u:=.ptr 1207 14) O O ⟨Gh (J4 G48 O O) O,ø⟩ (Gd (u:=.mp 1209) O O ⟨Gh (J1 G36 O O O O) O,ø⟩ (Gd (u:=Ei b) O O ⟨Gh (Ga Qp O O O) O,ø⟩ (Gd (u:=I64 b.ID) O O ⟨Gh (Gg Gb O O O) O,ø⟩ (Gd (u:=.agg (Box.cs b)) O O ⟨Gh (Gk R4 O O O) O,ø⟩ (H3a (u:=.junk) O O O O (Gh (H1e (m:=m.quay) (a:=b.ID) (v:=b) (fun _=>O) O O O O O O J7c H7a) O) (Rj (i ?_)))))))))
  refine Jr fun j=>(JLh (.ptr 1207 0) (J1 Jf O O O O) O (JLh (.ptr 1207 0) (Yp O O) O (JLh (.ptr 1207 16) (J4 Gcf O O) O (JLh (I64 m.lifts) (J1 Gb O O O O) O ?_))))
  obtain⟨d,k,h⟩:=J0 h
  refine JLh (I64 d) (Ja k O O O) O (JLh (.ptr 1207 0) (Yp O O) O (JLh (.ptr 1207 16) (J4 Gcf O O) O (Ho (u:=.junk) (H7 (u:=I64 d) (ds:=[E3 m.ship.Columns,E8 m.ship.Covers,I64 m.ship.Light.Kilos,I64 m.ship.Light.X,I64 m.ship.Light.Y,I64 m.ship.Light.Z,E4 m.ship.Rows,E5 m.ship.Frames,E6 m.ship.Tanks,I64 m.ship.G8.Tolerance,I64 m.ship.G8.Trim,I64 m.ship.G8.List_,I64 m.ship.G8.Stability,.mp 1208,.mp 1209,.mp 1210,I64 d]) G53 O O O O O O O O) (G5 (j (Jr fun l=>(JLm (I64 0) O (G5 (l (Gs ?_))))))))))
  obtain rfl:=M7 h
  exact⟨[I64 0],[(1207,.box 94 [E3 m.ship.Columns,E8 m.ship.Covers,I64 m.ship.Light.Kilos,I64 m.ship.Light.X,I64 m.ship.Light.Y,I64 m.ship.Light.Z,E4 m.ship.Rows,E5 m.ship.Frames,E6 m.ship.Tanks,I64 m.ship.G8.Tolerance,I64 m.ship.G8.Trim,I64 m.ship.G8.List_,I64 m.ship.G8.Stability,.mp 1208,.mp 1209,.mp 1210,I64 d]),(1208,TP 90 Slot.kv Box.av (Gv.del m.on x.Slot)),(1209,TP 91 Ks Box.av (Gv.put m.quay b.ID b)),(1210,TP 92 Ks I64 m.open_)],⟨fbQ O (.sm O O),fmQ O,fmQ O,fmQ O,ø⟩,rfl,⟨⟨_,rfl,.conv (.same rfl)⟩,ø⟩,rfl,rfl⟩

def Gac (a:Gc) (b:Move) (c:Box):Option Bool:=
 bnd (G73 a.ship b.Slot c.Size) fun d=>
 some d
theorem Q25 (a:Gc) (b:Move) (c:Box) (r:Bool) (h:Gac a b c=some r):Pure En 82 [.dptr [.dptr (Gc.cs a)],Ef b,Ei c] (·=BL r):=by
 unfold Gac at h
 refine Gx [.tmp 3] Tryz.func82 O O (Jr fun e=>(JLm (BL false) O (G5 (e (Js fun f=>?_)))))
 obtain⟨d,g,h⟩:=Ge h
 refine JC_d0 J9 (by kernel_rfl) (Dq (Eg a) (Gg Jf O O O) O (Dq (Eg a) (G78 O O) O (Dq (Eg a) (Ga Ym O O O) O (Dq (.agg (Gi.cs a.ship)) (Gk Jd O O O) O (Dq (.dptr ((Move.cs b).drop 2)) (Ga Qt O O O) O (Dq (.agg (Slot.cs b.Slot)) (Gk J2 O O O) O (Dq (.dptr ((Box.cs c).drop 2)) (Ga G28 O O O) O (Dq (U8 c.Size) (Gg Hx O O O) O (Dq (BL d) (Gu (args:=[.agg (Gi.cs a.ship),.agg (Slot.cs b.Slot),U8 c.Size]) O (J53 a.ship b.Slot c.Size d g) Qa1 ⟨O,O,O,O,O,O,ø⟩) O (Dq (BL d) (G7 O O) O (Dnil (f (Gs (fin1 BL h))))))))))))))

def Gab (a:Gc) (b:Move):Option Bool:=
 bnd (G5c a b.Slot) fun c=>
 some (!c)
theorem Q24 (d:Gc) (a:Move) (r:Bool) (h:Gab d a=some r):Pure En 83 [.dptr [.dptr (Gc.cs d)],Ef a] (·=BL r):=by
 unfold Gab at h
 refine Gx [.tmp 2] Tryz.func83 O O (Jr fun e=>(JLm (BL false) O (G5 (e (Jr fun f=>(JLh (Eg d) (Gg Jf O O O) O (JLh (.dptr ((Move.cs a).drop 2)) (Ga Qt O O O) O (JLh (.agg (Slot.cs a.Slot)) (Gk J2 O O O) O ?_))))))))
 obtain⟨c,g,h⟩:=Ge h
 refine JLh (BL c) (Gu O (Hea d a.Slot c g) Q9d ⟨O,O,O,O,ø⟩) O (JLh (BL (!c)) (Y8 (b:=c) O O) O (JLm (BL (!c)) O (G5 (f (Gs (fin1 BL h))))))

def G5d (y:Slot) (a:Move):Option Bool:=
 bnd (Gfe y a.Slot) fun b=>
 some b
theorem Jb7 (y:Slot) (a:Move) (r:Bool) (h:G5d y a=some r):Pure En 85 [.agg [I64 y.G3,I64 y.Tier,U8 y.Half],Ef a] (·=BL r):=by
 unfold G5d at h
 refine Gx [.tmp 3] Tryz.func85 O O (Jr fun c=>(JLh (.ptr 1150 0) (Q4 (cs:=[I64 y.G3,I64 y.Tier,U8 y.Half]) 1150 O O O O O) O (JLm (BL false) O (G5 (c (Gn [(1,Ef a),(2,.dptr [I64 y.G3,I64 y.Tier,U8 y.Half])] [] 1150 rfl rfl rfl ø rfl (by exact⟨.conv (.same rfl),.ptr,ø⟩) (Jr fun d=>(JLh (.agg [I64 y.G3,I64 y.Tier,U8 y.Half]) (Gk J2 O O O) O (JLh (.dptr ((Move.cs a).drop 2)) (Ga Qt O O O) O (JLh (.agg (Slot.cs a.Slot)) (Gk J2 O O O) O ?_))))))))))
 obtain⟨b,e,h⟩:=Ge h
 refine JLh (BL b) (Gu O (J91 y a.Slot b e) Q9f ⟨O,O,O,O,ø⟩) O (JLm (BL b) O (G5 (d (Gs (fin1 BL h)))))

def Gaa (a:Gc) (b:Move):Option Bool:=
 bnd (Zy a (fun z0=>G5d z0 b)) fun c=>
 some (!c)
theorem Q23 (d:Gc) (a:Move) (r:Bool) (h:Gaa d a=some r):Pure En 84 [.dptr [.dptr (Gc.cs d)],Ef a] (·=BL r):=by
 unfold Gaa at h
 refine Gx [.tmp 2] Tryz.func84 O O (Jr fun e=>(JLm (BL false) O (G5 (e (Jr fun f=>(JLh (Eg d) (Gg Jf O O O) O (JLh (.fn 85 [.dptr (Move.cs a)]) (Q2 (cs:=[.dptr (Move.cs a)]) O O) O ?_)))))))
 obtain⟨c,g,h⟩:=Ge h
 refine JLh (BL c) (Gu O (H66.down d (fun z0=>G5d z0 a) 85 [.dptr (Move.cs a)] Y0f O (fun z0 q hq=>Jb7 z0 a q hq) c g) J9d ⟨O,O,O,O,ø⟩) O (JLh (BL (!c)) (Y8 (b:=c) O O) O (JLm (BL (!c)) O (G5 (f (Gs (fin1 BL h))))))

def Ga9 (b:Move) (a:Gc):Option Bool:=
 bnd (G14 a.on) fun e=>
 bnd (Zx (Gv.keys a.on)) fun c=>
 bnd (H64 b.Slot c) fun d=>
 some d
theorem Q22 (b:Move) (a:Gc) (r:Bool) (h:Ga9 b a=some r):Pure En 86 [.dptr (Move.cs b),.dptr [.dptr (Gc.cs a)]] (·=BL r):=by
 unfold Ga9 at h
 refine Gx [.tmp 2] Tryz.func86 O O (Jr fun e=>(JLm (BL false) O (G5 (e (Js fun f=>?_)))))
 obtain⟨k,g,h⟩:=Ge h
 obtain⟨c,i,h⟩:=Ge h
 obtain⟨d,j,h⟩:=Ge h
 refine JC_d0 J9 (by kernel_rfl) (Dq (.dptr ((Move.cs b).drop 2)) (Ga Qt O O O) O (Dq (.agg (Slot.cs b.Slot)) (Gk J2 O O O) O (Dq (Eg a) (Gg Jf O O O) O (Dq (Eg a) (G78 O O) O (Dq (.dptr ((Gc.cs a).drop 13)) (Ga Yk O O O) O (Dq (DM Slot.kv Box.av a.on) (Gg Yr O O O) O (Dq (.fn 125 [.dptr [DM Slot.kv Box.av a.on]]) (Gu (args:=[DM Slot.kv Box.av a.on]) O (H38 a.on k g) Y0c ⟨O,O,ø⟩) O (Dq (BG 3 Slot.av c) (Gu (args:=[.fn 125 [.dptr [DM Slot.kv Box.av a.on]]]) O (H96.down (Gv.keys a.on) 125 [.dptr [DM Slot.kv Box.av a.on]] Ra8 O (H1b a.on) c i) Y0d ⟨O,O,ø⟩) O (Dq (BL d) (Gu (args:=[.agg (Slot.cs b.Slot),BG 3 Slot.av c]) O (Jea.down b.Slot c d j) Qa0 ⟨O,O,O,O,ø⟩) O (Dq (BL d) (G7 O O) O (Dnil ?_)))))))))))
 refine f (Gs (fin1 BL h))

def Ga8 (b:Gc) (c:Move) (d:Box):Option Bool:=
 Qw b.ship.Columns c.Slot.G3 fun a=>
 bnd (bif (!(decide (a.Height≤0))) then G2a b c.Slot d 1 else some default) fun e=>
 bnd (bif (!(decide (a.Height≤0))) then G2a b c.Slot d 2 else some default) fun f=>
 some ((decide (a.Height≤0))||(decide ((max e f)≤a.Height)))
theorem Q21 (a:Gc) (c:Move) (d:Box) (r:Bool) (h:Ga8 a c d=some r):Pure En 89 [.dptr [.dptr (Gc.cs a)],Ef c,Ei d] (·=BL r):=by
 unfold Ga8 at h
 refine Gx [.tmp 3] Tryz.func89 O O (Jr fun i=>(JLm (BL false) O (G5 (i (Js fun j=>?_)))))
 obtain⟨p,b,k,l,h⟩:=Yc h
 refine JC_d0 J9 (by kernel_rfl) (Dq (Eg a) (Gg Jf O O O) O (Dq (Eg a) (G78 O O) O (Dq (Eg a) (Ga Ym O O O) O (Dq (Eg a) (Ga J8 O O O) O (Dq (E3 a.ship.Columns) (Gg Jp O O O) O (Dq (.dptr ((Move.cs c).drop 2)) (Ga Qt O O O) O (Dq (.dptr ((Move.cs c).drop 2)) (Ga J7 O O O) O (Dq (I64 c.Slot.G3) (Gg Gb O O O) O (Dq (Ej b) (Hb (f:=G3.av) (xs:=a.ship.Columns) (y:=b) O O O Hy l k) O (Dq (.dptr ((G3.cs b).drop 4)) (Ga Hc8 O O O) O (Dq (I64 b.Height) (Gg Gb O O O) O (Dq (I64 b.Height) (G7 O O) O (Dnil (j (Js fun m=>?_)))))))))))))))
 obtain⟨e,n,h⟩:=Ge h
 obtain⟨g,o,h⟩:=Ge h
 refine JC_d0 J9 (by kernel_rfl) (Dq (I64 b.Height) (G6 O O) O (Dq (BL (decide (b.Height≤0))) (Hc5 O O O) O (Dq (BL (decide (b.Height≤0))) (G6 O O) O (Do (Eg a) [] O .scf ø (fun hc=>Gg Jf O O O) O (Do (.dptr ((Move.cs c).drop 2)) [] O .scf ø (fun hc=>Ga Qt O O O) O (Do (.agg (Slot.cs c.Slot)) [20] O .scf ⟨Ua,ø⟩ (fun hc=>Gk J2 O O O) O (Do (.agg (Box.cs d)) [] O .scf ø (fun hc=>Gk R4 O O O) O (Do (I64 e) [19,21,22] O .scf ⟨Ua,Ua,Ua,ø⟩ (fun hc=>Gu (args:=[.dptr (Gc.cs a),.agg (Slot.cs c.Slot),.agg (Box.cs d),U8 1]) O (He8.down a c.Slot d 1 e (H4 hc n)) Q9c ⟨O,O,O,O,O,O,O,O,ø⟩) O (Do (Eg a) [] O .scf ø (fun hc=>Gg Jf O O O) O (Do (.dptr ((Move.cs c).drop 2)) [] O .scf ø (fun hc=>Ga Qt O O O) O (Do (.agg (Slot.cs c.Slot)) [25] O .scf ⟨Ua,ø⟩ (fun hc=>Gk J2 O O O) O (Do (.agg (Box.cs d)) [] O .scf ø (fun hc=>Gk R4 O O O) O (Do (I64 g) [24,26,27] O .scf ⟨Ua,Ua,Ua,ø⟩ (fun hc=>Gu (args:=[.dptr (Gc.cs a),.agg (Slot.cs c.Slot),.agg (Box.cs d),U8 2]) O (He8.down a c.Slot d 2 g (H4 hc o)) Q9c ⟨O,O,O,O,O,O,O,O,ø⟩) O ?_)))))))))))))
 refine Do (I64 (max e g)) [23,28] O .scf ⟨Ua,Ua,ø⟩ (fun hc=>Z89 O O O) O (Do (I64 b.Height) [] O .scf ø (fun hc=>G6 O O) O (Do (BL (decide ((max e g)≤b.Height))) [29,30] O .scf ⟨Ua,Ua,ø⟩ (fun hc=>Hc5 O O O) O (Dq (BL ((decide (b.Height≤0))||(decide ((max e g)≤b.Height)))) (G94 O O O O) O (Dq (BL ((decide (b.Height≤0))||(decide ((max e g)≤b.Height)))) (G7 O O) O (Dnil (m (Gs (fin1 BL h))))))))

def H16 (m:Gc) (x:Move):Option (Int×Gc):=
 bnd (some (Gv.get m.quay x.Box (Box.mk 0 ByteArray.empty 0 false 0 0 0 0 false))) fun a=>
 bnd (H5b (decide (x.G9=0)) 310) fun d=>
 bnd (H5b (Gv.has m.quay x.Box) 313) fun e=>
 bnd (H43 [(Yx (decide (x.G9=0)),310),
  (Yx (Gv.has m.quay x.Box),313),
  (Gac m (Move.mk x.Kind x.Box x.Slot x.G9) a,316),
  (Gab m (Move.mk x.Kind x.Box x.Slot x.G9),315),
  (Gaa m (Move.mk x.Kind x.Box x.Slot x.G9),317),
  (Ga9 (Move.mk x.Kind x.Box x.Slot x.G9) m,318),
  (Ga8 m (Move.mk x.Kind x.Box x.Slot x.G9) a,319)]) fun b=>
 bif decide (b≠0) then
 (some (b,m))
 else
 (chk (m.lifts+1) fun c=>
  some (0,(Gc.mk m.ship (Gv.put m.on x.Slot a) (Gv.del m.quay x.Box) m.open_ c)))
abbrev Ey (m:Gc):List AV:=[E3 m.ship.Columns,E8 m.ship.Covers,I64 m.ship.Light.Kilos,I64 m.ship.Light.X,I64 m.ship.Light.Y,I64 m.ship.Light.Z,E4 m.ship.Rows,E5 m.ship.Frames,E6 m.ship.Tanks,I64 m.ship.G8.Tolerance,I64 m.ship.G8.Trim,I64 m.ship.G8.List_,I64 m.ship.G8.Stability,.mp 1208,.mp 1209,.mp 1210,I64 m.lifts]
theorem Qf4 (m:Gc) (x:Move) (r:Int×Gc) (h:H16 m x=some r):J5 En 43 [.ptr 1207 0,.agg (Move.cs x)] [(1207,.box 94 [E3 m.ship.Columns,E8 m.ship.Covers,I64 m.ship.Light.Kilos,I64 m.ship.Light.X,I64 m.ship.Light.Y,I64 m.ship.Light.Z,E4 m.ship.Rows,E5 m.ship.Frames,E6 m.ship.Tanks,I64 m.ship.G8.Tolerance,I64 m.ship.G8.Trim,I64 m.ship.G8.List_,I64 m.ship.G8.Stability,.mp 1208,.mp 1209,.mp 1210,I64 m.lifts]),(1208,TP 90 Slot.kv Box.av m.on),(1209,TP 91 Ks Box.av m.quay),(1210,TP 92 Ks I64 m.open_)] (fun av L'=>av=I64 r.1∧L'=[(1207,.box 94 [E3 r.2.ship.Columns,E8 r.2.ship.Covers,I64 r.2.ship.Light.Kilos,I64 r.2.ship.Light.X,I64 r.2.ship.Light.Y,I64 r.2.ship.Light.Z,E4 r.2.ship.Rows,E5 r.2.ship.Frames,E6 r.2.ship.Tanks,I64 r.2.ship.G8.Tolerance,I64 r.2.ship.G8.Trim,I64 r.2.ship.G8.List_,I64 r.2.ship.G8.Stability,.mp 1208,.mp 1209,.mp 1210,I64 r.2.lifts]),(1208,TP 90 Slot.kv Box.av r.2.on),(1209,TP 91 Ks Box.av r.2.quay),(1210,TP 92 Ks I64 r.2.open_)]):=by
 unfold H16 at h
 refine Jk [1207,1208,1209,1210] [.tmp 4] Tryz.func43 O O (G18 O) (Jr fun n=>(JLh (.ptr 1081 0) (Q4 (cs:=[.ptr 1207 0]) 1081 O O O O O) O (JLh (.ptr 1082 0) (Q4 (cs:=[U8 x.Kind,I64 x.Box,I64 x.Slot.G3,I64 x.Slot.Tier,U8 x.Slot.Half,I64 x.G9]) 1082 O O O O O) O (JLm (I64 0) O (G5 (n ?_))))))
 refine Gn [(2,.ptr 1081 0),(3,Ef x)] [(1207,.box 94 (Ey m)),(1208,TP 90 Slot.kv Box.av m.on),(1209,TP 91 Ks Box.av m.quay),(1210,TP 92 Ks I64 m.open_),(1081,.box 52 [.ptr 1207 0])] 1082 rfl rfl rfl ⟨⟨_,rfl,.boxEq rfl rfl⟩,fmQ O,fmQ O,fmQ O,⟨_,rfl,.boxEq rfl rfl⟩,ø⟩ rfl (by exact⟨.conv (.same rfl),.ptr,ø⟩) ?_
 refine Js fun o=>?_
 refine Qs (l':=[(2,.ptr 1081 0),(3,Ef x)]) (L':=[(1207,.box 94 (Ey m)),(1208,TP 90 Slot.kv Box.av m.on),(1209,TP 91 Ks Box.av m.quay),(1210,TP 92 Ks I64 m.open_),(1081,.box 52 [.ptr 1207 0])]) ⟨(.sm O O),⟨fbQ O (.sm O O),fmQ O,fmQ O,fmQ O,fbQ O ⟨.same rfl,ø⟩,ø⟩,rfl⟩ ?_
 obtain⟨b,e,h⟩:=Ge h
 refine Jq [10,11] [0,0,0,0,0,0,0,0,0,0,0,0,2] [1,1,1,1,1,1,1,1,1,2,0,0,2] [[(1207,.box 94 (Ey m)),(1208,TP 90 Slot.kv Box.av m.on),(1209,TP 91 Ks Box.av m.quay),(1210,TP 92 Ks I64 m.open_),(1081,.box 52 [.ptr 1207 0])],((1083,.box 103 [.junk,.junk,.junk,.junk,.junk,.junk,.junk,.junk,.junk])::[(1207,.box 94 (Ey m)),(1208,TP 90 Slot.kv Box.av m.on),(1209,TP 91 Ks Box.av m.quay),(1210,TP 92 Ks I64 m.open_),(1081,.box 52 [.ptr 1207 0])]),((1083,.box 103 (Box.cs b))::((1083,.box 103 [.junk,.junk,.junk,.junk,.junk,.junk,.junk,.junk,.junk])::[(1207,.box 94 (Ey m)),(1208,TP 90 Slot.kv Box.av m.on),(1209,TP 91 Ks Box.av m.quay),(1210,TP 92 Ks I64 m.open_),(1081,.box 52 [.ptr 1207 0])]))] J9 (by kernel_rfl) rfl rfl ?_
 refine Gd (u:=.ptr 1207 0) O O ⟨Gh (J1 Jf O O O O) O,Gh (J1 Jf O O O O) O,ø⟩ (Gd (u:=.ptr 1207 0) O O ⟨Gh (Yp O O) O,Gh (Yp O O) O,ø⟩ (Gd (u:=.ptr 1207 14) O O ⟨Gh (J4 G48 O O) O,Gh (J4 G48 O O) O,ø⟩ (Gd (u:=.mp 1209) O O ⟨Gh (J1 G36 O O O O) O,Gh (J1 G36 O O O O) O,ø⟩ (Gd (u:=.dptr ((Move.cs x).drop 1)) O O ⟨Gh (Ga G49 O O O) O,Gh (Ga G49 O O O) O,ø⟩ (Gd (u:=I64 x.Box) O O ⟨Gh (Gg Gb O O O) O,Gh (Gg Gb O O O) O,ø⟩ (Gd (u:=.tup [.agg (Box.cs b),BL (Gv.has m.quay x.Box)]) O O ⟨Gh (((M7 e) ▸ J1c (av:=Box.av) (m:=m.quay) (a:=x.Box) (Box.mk 0 ByteArray.empty 0 false 0 0 0 0 false) (.agg #[E0,.string ByteArray.empty,.int .u8 0,.bool false,E0,E0,E0,.int .u8 0,.bool false]) (fun _=>O) O (.own O) O J7c H7a J5e O)) O,Gh (((M7 e) ▸ J1c (av:=Box.av) (m:=m.quay) (a:=x.Box) (Box.mk 0 ByteArray.empty 0 false 0 0 0 0 false) (.agg #[E0,.string ByteArray.empty,.int .u8 0,.bool false,E0,E0,E0,.int .u8 0,.bool false]) (fun _=>O) O (.own O) O J7c H7a J5e O)) O,ø⟩ (Gd (u:=.tup [.agg (Box.cs b),BL (Gv.has m.quay x.Box)]) O O ⟨Gh (G6 O O) O,Gh (G6 O O) O,ø⟩ (Gd (u:=.agg (Box.cs b)) O O ⟨Gh (Gz O O O) O,Gh (Gz O O O) O,ø⟩ (Gd (u:=BL (Gv.has m.quay x.Box)) O O ⟨Gh (Gz O O O) O,Gh (Gz O O O) O,Gh (Gz O O O) O,ø⟩ (D_w (u:=.ptr 1083 0) O O O O (Gh (Hk 1083 9 Qx O O) O) (H3a (u:=.junk) O O O O (Gh (H7 (u:=.agg (Box.cs b)) (ds:=(Box.cs b)) Rh O O O O O O O O) O) (Gd (u:=BL (Gv.has m.quay x.Box)) O O ⟨Gh (G7 O O) O,ø⟩ (Rj ?_)))))))))))))
 refine o ?_
 refine fzQ [(2,.ptr 1081 0),(3,Ef x),(5,Ei b),(6,BL (Gv.has m.quay x.Box))] [(1207,.box 94 (Ey m)),(1208,TP 90 Slot.kv Box.av m.on),(1209,TP 91 Ks Box.av m.quay),(1210,TP 92 Ks I64 m.open_),(1081,.box 52 [.ptr 1207 0])] 1083 rfl rfl rfl ⟨⟨_,rfl,.boxEq rfl rfl⟩,fmQ O,fmQ O,fmQ O,⟨_,rfl,.boxEq rfl rfl⟩,ø⟩ rfl ?_
 refine Jr fun p=>(JLh (.dptr [I64 x.G9]) (Ga G21 O O O) O (JLh (I64 x.G9) (Gg Gb O O O) O (JLh (BL (decide (x.G9=0))) (Qk O O O) O ?_)))
 obtain⟨r5,s,h⟩:=Ge h
 refine JLh (.agg [.fn 123 [.dptr [BL (decide (x.G9=0))]],I64 310]) (Gu O (H37 (decide (x.G9=0)) 310 r5 s) H28 ⟨O,O,O,O,ø⟩) O (JLm (BL (Gv.has m.quay x.Box)) O ?_)
 obtain⟨r6,t,h⟩:=Ge h
 refine JLh (.agg [.fn 123 [.dptr [BL (Gv.has m.quay x.Box)]],I64 313]) (Gu O (H37 (Gv.has m.quay x.Box) 313 r6 t) H28 ⟨O,O,O,O,ø⟩) O (JLh (.fn 82 [.ptr 1081 0,Ef x,Ei b]) (Q2 (cs:=[.ptr 1081 0,Ef x,Ei b]) O O) O (JLh (.agg [.fn 82 [.ptr 1081 0,Ef x,Ei b],I64 316]) (Hg (cs:=[.fn 82 [.ptr 1081 0,Ef x,Ei b],I64 316]) [(0,1),(1,1)] [.sc .nilFunc,I64 0] [.nilFunc,E0] Zv G1f (zzQ O) O O) O (JLh (.fn 83 [.ptr 1081 0,Ef x]) (Q2 (cs:=[.ptr 1081 0,Ef x]) O O) O (JLh (.agg [.fn 83 [.ptr 1081 0,Ef x],I64 315]) (Hg (cs:=[.fn 83 [.ptr 1081 0,Ef x],I64 315]) [(0,1),(1,1)] [.sc .nilFunc,I64 0] [.nilFunc,E0] Zv G1f (zzQ O) O O) O (JLh (.fn 84 [.ptr 1081 0,Ef x]) (Q2 (cs:=[.ptr 1081 0,Ef x]) O O) O (JLh (.agg [.fn 84 [.ptr 1081 0,Ef x],I64 317]) (Hg (cs:=[.fn 84 [.ptr 1081 0,Ef x],I64 317]) [(0,1),(1,1)] [.sc .nilFunc,I64 0] [.nilFunc,E0] Zv G1f (zzQ O) O O) O (JLh (.fn 86 [.dptr (Move.cs x),.ptr 1081 0]) (Q2 (cs:=[.dptr (Move.cs x),.ptr 1081 0]) O O) O (JLh (.agg [.fn 86 [.dptr (Move.cs x),.ptr 1081 0],I64 318]) (Hg (cs:=[.fn 86 [.dptr (Move.cs x),.ptr 1081 0],I64 318]) [(0,1),(1,1)] [.sc .nilFunc,I64 0] [.nilFunc,E0] Zv G1f (zzQ O) O O) O (JLh (.fn 89 [.ptr 1081 0,Ef x,Ei b]) (Q2 (cs:=[.ptr 1081 0,Ef x,Ei b]) O O) O (JLh (.agg [.fn 89 [.ptr 1081 0,Ef x,Ei b],I64 319]) (Hg (cs:=[.fn 89 [.ptr 1081 0,Ef x,Ei b],I64 319]) [(0,1),(1,1)] [.sc .nilFunc,I64 0] [.nilFunc,E0] Zv G1f (zzQ O) O O) O (JLh (.ms 1084 0 7 7) (Q2a 1084 (xs:=[.agg [.fn 123 [.dptr [BL (decide (x.G9=0))]],I64 310],.agg [.fn 123 [.dptr [BL (Gv.has m.quay x.Box)]],I64 313],.agg [.fn 82 [.ptr 1081 0,Ef x,Ei b],I64 316],.agg [.fn 83 [.ptr 1081 0,Ef x],I64 315],.agg [.fn 84 [.ptr 1081 0,Ef x],I64 317],.agg [.fn 86 [.dptr (Move.cs x),.ptr 1081 0],I64 318],.agg [.fn 89 [.ptr 1081 0,Ef x,Ei b],I64 319]]) (cs:=[.fn 123 [.dptr [BL (decide (x.G9=0))]],I64 310,.fn 123 [.dptr [BL (Gv.has m.quay x.Box)]],I64 313,.fn 82 [.ptr 1081 0,Ef x,Ei b],I64 316,.fn 83 [.ptr 1081 0,Ef x],I64 315,.fn 84 [.ptr 1081 0,Ef x],I64 317,.fn 86 [.dptr (Move.cs x),.ptr 1081 0],I64 318,.fn 89 [.ptr 1081 0,Ef x,Ei b],I64 319]) O ⟨O,O,O,O,O,O,O,ø⟩ O H04 H70 O O O O O) O ?_)))))))))))
 obtain⟨c,w,h⟩:=Ge h
 refine JLg (I64 c) (G69 O (Qdb.down [J3.mk 123 [.dptr [BL (decide (x.G9=0))]] (Yx (decide (x.G9=0))) 310 Gf3 O (fun q hq=>Gbd (decide (x.G9=0)) q hq),
 J3.mk 123 [.dptr [BL (Gv.has m.quay x.Box)]] (Yx (Gv.has m.quay x.Box)) 313 Gf3 rfl (fun q hq=>Gbd (Gv.has m.quay x.Box) q hq),
 J3.mk 82 [.dptr [.dptr (Gc.cs m)],Ef x,Ei b] (Gac m (Move.mk x.Kind x.Box x.Slot x.G9) b) 316 Y12 rfl (fun q hq=>Q25 m (Move.mk x.Kind x.Box x.Slot x.G9) b q hq),
 J3.mk 83 [.dptr [.dptr (Gc.cs m)],Ef x] (Gab m (Move.mk x.Kind x.Box x.Slot x.G9)) 315 Y11 rfl (fun q hq=>Q24 m (Move.mk x.Kind x.Box x.Slot x.G9) q hq),
 J3.mk 84 [.dptr [.dptr (Gc.cs m)],Ef x] (Gaa m (Move.mk x.Kind x.Box x.Slot x.G9)) 317 Y10 rfl (fun q hq=>Q23 m (Move.mk x.Kind x.Box x.Slot x.G9) q hq),
 J3.mk 86 [.dptr (Move.cs x),.dptr [.dptr (Gc.cs m)]] (Ga9 (Move.mk x.Kind x.Box x.Slot x.G9) m) 318 Y0e rfl (fun q hq=>Q22 (Move.mk x.Kind x.Box x.Slot x.G9) m q hq),
 J3.mk 89 [.dptr [.dptr (Gc.cs m)],Ef x,Ei b] (Ga8 m (Move.mk x.Kind x.Box x.Slot x.G9) b) 319 Y0b rfl (fun q hq=>Q21 m (Move.mk x.Kind x.Box x.Slot x.G9) b q hq)] c w) J9c ⟨.msL rfl rfl rfl ⟨.data O O,.data O O,.data O O,.data O O,.fnL ⟨.ptrL rfl ⟨.ptrL rfl (dnQ 13 O O ⟨.mp rfl,.mp rfl,.mp rfl,.data O O,trivial⟩),trivial⟩,.data O O,.data O O,trivial⟩,.data O O,.fnL ⟨.ptrL rfl ⟨.ptrL rfl (dnQ 13 O O ⟨.mp rfl,.mp rfl,.mp rfl,.data O O,trivial⟩),trivial⟩,.data O O,trivial⟩,.data O O,.fnL ⟨.ptrL rfl ⟨.ptrL rfl (dnQ 13 O O ⟨.mp rfl,.mp rfl,.mp rfl,.data O O,trivial⟩),trivial⟩,.data O O,trivial⟩,.data O O,.fnL ⟨.data O O,.ptrL rfl ⟨.ptrL rfl (dnQ 13 O O ⟨.mp rfl,.mp rfl,.mp rfl,.data O O,trivial⟩),trivial⟩,trivial⟩,.data O O,.fnL ⟨.ptrL rfl ⟨.ptrL rfl (dnQ 13 O O ⟨.mp rfl,.mp rfl,.mp rfl,.data O O,trivial⟩),trivial⟩,.data O O,.data O O,trivial⟩,.data O O,trivial⟩,trivial⟩ rfl) ?_ rfl rfl rfl
 refine JLm (I64 c) O (G5 (p (Js fun y=>Jr fun z=>(JLm (I64 c) O (JLh (BL (decide (c≠0))) (Gca O O O) O (G5 (z (JCc O h (fun h hb=>?_) (fun h hb=>?_)))))))))
 ·
  refine Jr fun f=>(JLm (I64 c) O (JLm (I64 c) O (G5 (f (Gs ?_)))))
  obtain rfl:=M7 h
  exact⟨[I64 c],[(1207,.box 94 (Ey m)),(1208,TP 90 Slot.kv Box.av m.on),(1209,TP 91 Ks Box.av m.quay),(1210,TP 92 Ks I64 m.open_)],⟨fbQ O (.sm O O),fmQ O,fmQ O,fmQ O,ø⟩,rfl,⟨⟨_,rfl,.conv (.same rfl)⟩,ø⟩,rfl,rfl⟩
 ·
  refine Gm (y (Js fun g=>?_))
  refine Qs (l':=[(2,.ptr 1081 0),(3,Ef x),(5,Ei b)]) (L':=[(1207,.box 94 (Ey m)),(1208,TP 90 Slot.kv Box.av m.on),(1209,TP 91 Ks Box.av m.quay),(1210,TP 92 Ks I64 m.open_),(1081,.box 52 [.ptr 1207 0]),(1084,.box 151 [.fn 123 [.dptr [BL (decide (x.G9=0))]],I64 310,.fn 123 [.dptr [BL (Gv.has m.quay x.Box)]],I64 313,.fn 82 [.ptr 1081 0,Ef x,Ei b],I64 316,.fn 83 [.ptr 1081 0,Ef x],I64 315,.fn 84 [.ptr 1081 0,Ef x],I64 317,.fn 86 [.dptr (Move.cs x),.ptr 1081 0],I64 318,.fn 89 [.ptr 1081 0,Ef x,Ei b],I64 319])]) ⟨(.sm O O),⟨fbQ O (.sm O O),fmQ O,fmQ O,fmQ O,fbQ O ⟨.same rfl,ø⟩,fbQ O (.sm O O),ø⟩,rfl⟩ ?_
  refine Jq [6] [0,0,0,0,0,0,0] [0,0,0,0,0,0,0] [[(1207,.box 94 (Ey m)),(1208,TP 90 Slot.kv Box.av m.on),(1209,TP 91 Ks Box.av m.quay),(1210,TP 92 Ks I64 m.open_),(1081,.box 52 [.ptr 1207 0]),(1084,.box 151 [.fn 123 [.dptr [BL (decide (x.G9=0))]],I64 310,.fn 123 [.dptr [BL (Gv.has m.quay x.Box)]],I64 313,.fn 82 [.ptr 1081 0,Ef x,Ei b],I64 316,.fn 83 [.ptr 1081 0,Ef x],I64 315,.fn 84 [.ptr 1081 0,Ef x],I64 317,.fn 86 [.dptr (Move.cs x),.ptr 1081 0],I64 318,.fn 89 [.ptr 1081 0,Ef x,Ei b],I64 319])],((1209,TP 91 Ks Box.av (Gv.del m.quay x.Box))::[(1207,.box 94 (Ey m)),(1208,TP 90 Slot.kv Box.av m.on),(1209,TP 91 Ks Box.av m.quay),(1210,TP 92 Ks I64 m.open_),(1081,.box 52 [.ptr 1207 0]),(1084,.box 151 [.fn 123 [.dptr [BL (decide (x.G9=0))]],I64 310,.fn 123 [.dptr [BL (Gv.has m.quay x.Box)]],I64 313,.fn 82 [.ptr 1081 0,Ef x,Ei b],I64 316,.fn 83 [.ptr 1081 0,Ef x],I64 315,.fn 84 [.ptr 1081 0,Ef x],I64 317,.fn 86 [.dptr (Move.cs x),.ptr 1081 0],I64 318,.fn 89 [.ptr 1081 0,Ef x,Ei b],I64 319])])] J9 (by kernel_rfl) rfl rfl ?_
  refine Gd (u:=.ptr 1207 0) O O ⟨Gh (J1 Jf O O O O) O,ø⟩ (Gd (u:=.ptr 1207 0) O O ⟨Gh (Yp O O) O,ø⟩ (Gd (u:=.ptr 1207 14) O O ⟨Gh (J4 G48 O O) O,ø⟩ (Gd (u:=.mp 1209) O O ⟨Gh (J1 G36 O O O O) O,ø⟩ (Gd (u:=.dptr ((Move.cs x).drop 1)) O O ⟨Gh (Ga G49 O O O) O,ø⟩ (Gd (u:=I64 x.Box) O O ⟨Gh (Gg Gb O O O) O,ø⟩ (H3a (u:=.tup []) O O O O (Gh (J1b (m:=m.quay) (a:=x.Box) (fun _=>O) O O O O J7c H7a) O) (Rj (g (Js fun i=>?_)))))))))
  refine Qs (l':=[(2,.ptr 1081 0),(3,Ef x),(5,Ei b)]) (L':=[(1207,.box 94 (Ey m)),(1208,TP 90 Slot.kv Box.av m.on),(1209,TP 91 Ks Box.av (Gv.del m.quay x.Box)),(1210,TP 92 Ks I64 m.open_),(1081,.box 52 [.ptr 1207 0]),(1084,.box 151 [.fn 123 [.dptr [BL (decide (x.G9=0))]],I64 310,.fn 123 [.dptr [BL (Gv.has m.quay x.Box)]],I64 313,.fn 82 [.ptr 1081 0,Ef x,Ei b],I64 316,.fn 83 [.ptr 1081 0,Ef x],I64 315,.fn 84 [.ptr 1081 0,Ef x],I64 317,.fn 86 [.dptr (Move.cs x),.ptr 1081 0],I64 318,.fn 89 [.ptr 1081 0,Ef x,Ei b],I64 319])]) ⟨(.sm O O),⟨fbQ O (.sm O O),fmQ O,fmQ O,fmQ O,fbQ O ⟨.same rfl,ø⟩,fbQ O (.sm O O),ø⟩,rfl⟩ ?_
  refine Jq [7] [0,0,0,0,0,0,0,0] [0,0,0,0,0,0,0,0] [[(1207,.box 94 (Ey m)),(1208,TP 90 Slot.kv Box.av m.on),(1209,TP 91 Ks Box.av (Gv.del m.quay x.Box)),(1210,TP 92 Ks I64 m.open_),(1081,.box 52 [.ptr 1207 0]),(1084,.box 151 [.fn 123 [.dptr [BL (decide (x.G9=0))]],I64 310,.fn 123 [.dptr [BL (Gv.has m.quay x.Box)]],I64 313,.fn 82 [.ptr 1081 0,Ef x,Ei b],I64 316,.fn 83 [.ptr 1081 0,Ef x],I64 315,.fn 84 [.ptr 1081 0,Ef x],I64 317,.fn 86 [.dptr (Move.cs x),.ptr 1081 0],I64 318,.fn 89 [.ptr 1081 0,Ef x,Ei b],I64 319])],((1208,TP 90 Slot.kv Box.av (Gv.put m.on x.Slot b))::[(1207,.box 94 (Ey m)),(1208,TP 90 Slot.kv Box.av m.on),(1209,TP 91 Ks Box.av (Gv.del m.quay x.Box)),(1210,TP 92 Ks I64 m.open_),(1081,.box 52 [.ptr 1207 0]),(1084,.box 151 [.fn 123 [.dptr [BL (decide (x.G9=0))]],I64 310,.fn 123 [.dptr [BL (Gv.has m.quay x.Box)]],I64 313,.fn 82 [.ptr 1081 0,Ef x,Ei b],I64 316,.fn 83 [.ptr 1081 0,Ef x],I64 315,.fn 84 [.ptr 1081 0,Ef x],I64 317,.fn 86 [.dptr (Move.cs x),.ptr 1081 0],I64 318,.fn 89 [.ptr 1081 0,Ef x,Ei b],I64 319])])] J9 (by kernel_rfl) rfl rfl ?_
  refine Gd (u:=.ptr 1207 0) O O ⟨Gh (J1 Jf O O O O) O,ø⟩ (Gd (u:=.ptr 1207 0) O O ⟨Gh (Yp O O) O,ø⟩ (Gd (u:=.ptr 1207 13) O O ⟨Gh (J4 Yk O O) O,ø⟩ (Gd (u:=.mp 1208) O O ⟨Gh (J1 Yr O O O O) O,ø⟩ (Gd (u:=.dptr ((Move.cs x).drop 2)) O O ⟨Gh (Ga Qt O O O) O,ø⟩ (Gd (u:=.agg (Slot.cs x.Slot)) O O ⟨Gh (Gk J2 O O O) O,ø⟩ (Gd (u:=.agg (Box.cs b)) O O ⟨Gh (Gk R4 O O O) O,ø⟩ (H3a (u:=.junk) O O O O (Gh (H1e (m:=m.on) (a:=x.Slot) (v:=b) (fun _=>O) O O O O O O R90 G86) O) (Rj (i ?_)))))))))
  refine Jr fun j=>(JLh (.ptr 1207 0) (J1 Jf O O O O) O (JLh (.ptr 1207 0) (Yp O O) O (JLh (.ptr 1207 16) (J4 Gcf O O) O (JLh (I64 m.lifts) (J1 Gb O O O O) O ?_))))
  obtain⟨d,k,h⟩:=J0 h
  refine JLh (I64 d) (Ja k O O O) O (JLh (.ptr 1207 0) (Yp O O) O (JLh (.ptr 1207 16) (J4 Gcf O O) O (Ho (u:=.junk) (H7 (u:=I64 d) (ds:=[E3 m.ship.Columns,E8 m.ship.Covers,I64 m.ship.Light.Kilos,I64 m.ship.Light.X,I64 m.ship.Light.Y,I64 m.ship.Light.Z,E4 m.ship.Rows,E5 m.ship.Frames,E6 m.ship.Tanks,I64 m.ship.G8.Tolerance,I64 m.ship.G8.Trim,I64 m.ship.G8.List_,I64 m.ship.G8.Stability,.mp 1208,.mp 1209,.mp 1210,I64 d]) G53 O O O O O O O O) (G5 (j (Jr fun l=>(JLm (I64 0) O (G5 (l (Gs ?_))))))))))
  obtain rfl:=M7 h
  exact⟨[I64 0],[(1207,.box 94 [E3 m.ship.Columns,E8 m.ship.Covers,I64 m.ship.Light.Kilos,I64 m.ship.Light.X,I64 m.ship.Light.Y,I64 m.ship.Light.Z,E4 m.ship.Rows,E5 m.ship.Frames,E6 m.ship.Tanks,I64 m.ship.G8.Tolerance,I64 m.ship.G8.Trim,I64 m.ship.G8.List_,I64 m.ship.G8.Stability,.mp 1208,.mp 1209,.mp 1210,I64 d]),(1208,TP 90 Slot.kv Box.av (Gv.put m.on x.Slot b)),(1209,TP 91 Ks Box.av (Gv.del m.quay x.Box)),(1210,TP 92 Ks I64 m.open_)],⟨fbQ O (.sm O O),fmQ O,fmQ O,fmQ O,ø⟩,rfl,⟨⟨_,rfl,.conv (.same rfl)⟩,ø⟩,rfl,rfl⟩

def G1e (m:Gc) (x:Move):Option (Int×Gc):=
 jp (fun a=>
  bif decide (x.Kind=1) then
  (a (decide (x.Kind=1)))
  else
  (a (decide (x.Kind=4)))) fun(e:Bool)=>
 bif e then
 (bnd (G12 m (Move.mk x.Kind x.Box x.Slot x.G9)) fun b=>
  some (b.1,b.2))
 else
 (bif decide (x.Kind=2) then
  (bnd (Gda m (Move.mk x.Kind x.Box x.Slot x.G9)) fun c=>
   some (c.1,c.2))
  else
  (bif decide (x.Kind=3) then
   (bnd (H16 m (Move.mk x.Kind x.Box x.Slot x.G9)) fun d=>
    some (d.1,d.2))
   else
   (some (310,m))))
abbrev Ez (m:Gc):List AV:=[E3 m.ship.Columns,E8 m.ship.Covers,I64 m.ship.Light.Kilos,I64 m.ship.Light.X,I64 m.ship.Light.Y,I64 m.ship.Light.Z,E4 m.ship.Rows,E5 m.ship.Frames,E6 m.ship.Tanks,I64 m.ship.G8.Tolerance,I64 m.ship.G8.Trim,I64 m.ship.G8.List_,I64 m.ship.G8.Stability,.mp 1208,.mp 1209,.mp 1210,I64 m.lifts]
theorem H9c (m:Gc) (x:Move) (r:Int×Gc) (h:G1e m x=some r):J5 En 13 [.ptr 1207 0,.agg (Move.cs x)] [(1207,.box 94 [E3 m.ship.Columns,E8 m.ship.Covers,I64 m.ship.Light.Kilos,I64 m.ship.Light.X,I64 m.ship.Light.Y,I64 m.ship.Light.Z,E4 m.ship.Rows,E5 m.ship.Frames,E6 m.ship.Tanks,I64 m.ship.G8.Tolerance,I64 m.ship.G8.Trim,I64 m.ship.G8.List_,I64 m.ship.G8.Stability,.mp 1208,.mp 1209,.mp 1210,I64 m.lifts]),(1208,TP 90 Slot.kv Box.av m.on),(1209,TP 91 Ks Box.av m.quay),(1210,TP 92 Ks I64 m.open_)] (fun av L'=>av=I64 r.1∧L'=[(1207,.box 94 [E3 r.2.ship.Columns,E8 r.2.ship.Covers,I64 r.2.ship.Light.Kilos,I64 r.2.ship.Light.X,I64 r.2.ship.Light.Y,I64 r.2.ship.Light.Z,E4 r.2.ship.Rows,E5 r.2.ship.Frames,E6 r.2.ship.Tanks,I64 r.2.ship.G8.Tolerance,I64 r.2.ship.G8.Trim,I64 r.2.ship.G8.List_,I64 r.2.ship.G8.Stability,.mp 1208,.mp 1209,.mp 1210,I64 r.2.lifts]),(1208,TP 90 Slot.kv Box.av r.2.on),(1209,TP 91 Ks Box.av r.2.quay),(1210,TP 92 Ks I64 r.2.open_)]):=by
 unfold G1e at h
 refine Jk [1207,1208,1209,1210] [.tmp 4] Tryz.func13 O O (G18 O) (Jr fun q=>(JLh (.ptr 1021 0) (Q4 (cs:=[U8 x.Kind,I64 x.Box,I64 x.Slot.G3,I64 x.Slot.Tier,U8 x.Slot.Half,I64 x.G9]) 1021 O O O O O) O (JLm (I64 0) O (G5 (q ?_)))))
 refine Gn [(0,.ptr 1207 0),(3,Ef x)] [(1207,.box 94 (Ez m)),(1208,TP 90 Slot.kv Box.av m.on),(1209,TP 91 Ks Box.av m.quay),(1210,TP 92 Ks I64 m.open_)] 1021 rfl rfl rfl ⟨⟨_,rfl,.boxEq rfl rfl⟩,fmQ O,fmQ O,fmQ O,ø⟩ rfl (by exact⟨.conv (.same rfl),.ptr,ø⟩) (Js fun s=>?_)
 refine Jr fun t=>(JLm (.ptr 1207 0) O (JLh (BL true) (G69 (args:=[.dptr (Gc.cs m)]) O (Rs m true O) G70 ⟨.ptrL O (dnQ 13 O O ⟨.mp O,.mp O,.mp O,.data O O,ø⟩),ø⟩ O) O (JLh (BL false) (Y8 (b:=true) O O) O (G5 (t (G2d O (Gm (s (Js fun u=>Jr fun v=>(JLh (Ef x) (Ga H3e O O O) O (JLh (U8 x.Kind) (Gg Hx O O O) O (G5 (v (Gq ?_))))))))))))))
 obtain⟨w,f,h⟩:=Rm h
 refine Qi (fun e:Bool=>w e=some r) (fun e=>[(0,.ptr 1207 0),(3,Ef x),(9,U8 x.Kind),(10,BL e)]) (fun e=>[(1207,.box 94 (Ez m)),(1208,TP 90 Slot.kv Box.av m.on),(1209,TP 91 Ks Box.av m.quay),(1210,TP 92 Ks I64 m.open_)]) (fun Kj7 ej7=>?_) ?_
 ·
  refine Jr fun y=>(JLh (BL (decide (x.Kind=1))) (Qk O O O) O (JLm (BL (decide (x.Kind=1))) O (G5 (y (JCc O h (fun h hb=>?_) (fun h hb=>?_))))))
  ·
   refine Gm (ej7 _ _ (decide (x.Kind=1)) h ⟨(.sm O O),⟨fbQ O (.sm O O),fmQ O,fmQ O,fmQ O,ø⟩,rfl⟩)
  ·
   refine G2 (JLh (BL (decide (x.Kind=4))) (Qk O O O) O (JLm (BL (decide (x.Kind=4))) O (G5 (ej7 _ _ (decide (x.Kind=4)) h ⟨(.sm O O),⟨fbQ O (.sm O O),fmQ O,fmQ O,fmQ O,ø⟩,rfl⟩))))
 ·intro e h
  replace h:=app1 f h
  refine JCc O h ?_ ?_<;>intro h hb
  ·
   refine Jr fun z=>(JLm (.ptr 1207 0) O (JLh (.agg (Move.cs x)) (Gk Gb4 O O O) O ?_))
   obtain⟨a,g,h⟩:=Ge h
   refine JLh (I64 a.1) (Yv (args:=[.ptr 1207 0,.agg (Move.cs x)]) (L0:=[(1207,.box 94 (Ez m)),(1208,TP 90 Slot.kv Box.av m.on),(1209,TP 91 Ks Box.av m.quay),(1210,TP 92 Ks I64 m.open_)]) (Lr:=[(1207,.box 94 [E3 a.2.ship.Columns,E8 a.2.ship.Covers,I64 a.2.ship.Light.Kilos,I64 a.2.ship.Light.X,I64 a.2.ship.Light.Y,I64 a.2.ship.Light.Z,E4 a.2.ship.Rows,E5 a.2.ship.Frames,E6 a.2.ship.Tanks,I64 a.2.ship.G8.Tolerance,I64 a.2.ship.G8.Trim,I64 a.2.ship.G8.List_,I64 a.2.ship.G8.Stability,.mp 1208,.mp 1209,.mp 1210,I64 a.2.lifts]),(1208,TP 90 Slot.kv Box.av a.2.on),(1209,TP 91 Ks Box.av a.2.quay),(1210,TP 92 Ks I64 a.2.open_)]) O (Jf0 m (Move.mk x.Kind x.Box x.Slot x.G9) a g) Y21 ⟨.inl O,O,.inl O,O,ø⟩ ⟨O,O,O,O,ø⟩ O O O) O (JLm (I64 a.1) O (G5 (z ?_)))
   refine Gs ?_
   obtain rfl:=M7 h
   exact⟨[I64 a.1],[(1207,.box 94 [E3 a.2.ship.Columns,E8 a.2.ship.Covers,I64 a.2.ship.Light.Kilos,I64 a.2.ship.Light.X,I64 a.2.ship.Light.Y,I64 a.2.ship.Light.Z,E4 a.2.ship.Rows,E5 a.2.ship.Frames,E6 a.2.ship.Tanks,I64 a.2.ship.G8.Tolerance,I64 a.2.ship.G8.Trim,I64 a.2.ship.G8.List_,I64 a.2.ship.G8.Stability,.mp 1208,.mp 1209,.mp 1210,I64 a.2.lifts]),(1208,TP 90 Slot.kv Box.av a.2.on),(1209,TP 91 Ks Box.av a.2.quay),(1210,TP 92 Ks I64 a.2.open_)],⟨fbQ O (.sm O O),fmQ O,fmQ O,fmQ O,ø⟩,rfl,⟨⟨_,rfl,.conv (.same rfl)⟩,ø⟩,rfl,rfl⟩
  ·
   refine Jr fun i=>(JLh (BL (decide (x.Kind=2))) (Qk O O O) O (JLm (BL (decide (x.Kind=2))) O (G5 (i (JCc O h (fun h hb=>?_) (fun h hb=>?_))))))
   ·
    refine Jr fun j=>(JLm (.ptr 1207 0) O (JLh (.agg (Move.cs x)) (Gk Gb4 O O O) O ?_))
    obtain⟨c,k,h⟩:=Ge h
    refine JLh (I64 c.1) (Yv (args:=[.ptr 1207 0,.agg (Move.cs x)]) (L0:=[(1207,.box 94 (Ez m)),(1208,TP 90 Slot.kv Box.av m.on),(1209,TP 91 Ks Box.av m.quay),(1210,TP 92 Ks I64 m.open_)]) (Lr:=[(1207,.box 94 [E3 c.2.ship.Columns,E8 c.2.ship.Covers,I64 c.2.ship.Light.Kilos,I64 c.2.ship.Light.X,I64 c.2.ship.Light.Y,I64 c.2.ship.Light.Z,E4 c.2.ship.Rows,E5 c.2.ship.Frames,E6 c.2.ship.Tanks,I64 c.2.ship.G8.Tolerance,I64 c.2.ship.G8.Trim,I64 c.2.ship.G8.List_,I64 c.2.ship.G8.Stability,.mp 1208,.mp 1209,.mp 1210,I64 c.2.lifts]),(1208,TP 90 Slot.kv Box.av c.2.on),(1209,TP 91 Ks Box.av c.2.quay),(1210,TP 92 Ks I64 c.2.open_)]) O (Q6b m (Move.mk x.Kind x.Box x.Slot x.G9) c k) Y20 ⟨.inl O,O,.inl O,O,ø⟩ ⟨O,O,O,O,ø⟩ O O O) O (JLm (I64 c.1) O (G5 (j ?_)))
    refine Gs ?_
    obtain rfl:=M7 h
    exact⟨[I64 c.1],[(1207,.box 94 [E3 c.2.ship.Columns,E8 c.2.ship.Covers,I64 c.2.ship.Light.Kilos,I64 c.2.ship.Light.X,I64 c.2.ship.Light.Y,I64 c.2.ship.Light.Z,E4 c.2.ship.Rows,E5 c.2.ship.Frames,E6 c.2.ship.Tanks,I64 c.2.ship.G8.Tolerance,I64 c.2.ship.G8.Trim,I64 c.2.ship.G8.List_,I64 c.2.ship.G8.Stability,.mp 1208,.mp 1209,.mp 1210,I64 c.2.lifts]),(1208,TP 90 Slot.kv Box.av c.2.on),(1209,TP 91 Ks Box.av c.2.quay),(1210,TP 92 Ks I64 c.2.open_)],⟨fbQ O (.sm O O),fmQ O,fmQ O,fmQ O,ø⟩,rfl,⟨⟨_,rfl,.conv (.same rfl)⟩,ø⟩,rfl,rfl⟩
   ·
    refine Jr fun l=>(JLh (BL (decide (x.Kind=3))) (Qk O O O) O (JLm (BL (decide (x.Kind=3))) O (G5 (l (JCc O h (fun h hb=>?_) (fun h hb=>?_))))))
    ·
     refine Jr fun n=>(JLm (.ptr 1207 0) O (JLh (.agg (Move.cs x)) (Gk Gb4 O O O) O ?_))
     obtain⟨d,o,h⟩:=Ge h
     refine JLh (I64 d.1) (Yv (args:=[.ptr 1207 0,.agg (Move.cs x)]) (L0:=[(1207,.box 94 (Ez m)),(1208,TP 90 Slot.kv Box.av m.on),(1209,TP 91 Ks Box.av m.quay),(1210,TP 92 Ks I64 m.open_)]) (Lr:=[(1207,.box 94 [E3 d.2.ship.Columns,E8 d.2.ship.Covers,I64 d.2.ship.Light.Kilos,I64 d.2.ship.Light.X,I64 d.2.ship.Light.Y,I64 d.2.ship.Light.Z,E4 d.2.ship.Rows,E5 d.2.ship.Frames,E6 d.2.ship.Tanks,I64 d.2.ship.G8.Tolerance,I64 d.2.ship.G8.Trim,I64 d.2.ship.G8.List_,I64 d.2.ship.G8.Stability,.mp 1208,.mp 1209,.mp 1210,I64 d.2.lifts]),(1208,TP 90 Slot.kv Box.av d.2.on),(1209,TP 91 Ks Box.av d.2.quay),(1210,TP 92 Ks I64 d.2.open_)]) O (Qf4 m (Move.mk x.Kind x.Box x.Slot x.G9) d o) Y1f ⟨.inl O,O,.inl O,O,ø⟩ ⟨O,O,O,O,ø⟩ O O O) O (JLm (I64 d.1) O (G5 (n ?_)))
     refine Gs ?_
     obtain rfl:=M7 h
     exact⟨[I64 d.1],[(1207,.box 94 [E3 d.2.ship.Columns,E8 d.2.ship.Covers,I64 d.2.ship.Light.Kilos,I64 d.2.ship.Light.X,I64 d.2.ship.Light.Y,I64 d.2.ship.Light.Z,E4 d.2.ship.Rows,E5 d.2.ship.Frames,E6 d.2.ship.Tanks,I64 d.2.ship.G8.Tolerance,I64 d.2.ship.G8.Trim,I64 d.2.ship.G8.List_,I64 d.2.ship.G8.Stability,.mp 1208,.mp 1209,.mp 1210,I64 d.2.lifts]),(1208,TP 90 Slot.kv Box.av d.2.on),(1209,TP 91 Ks Box.av d.2.quay),(1210,TP 92 Ks I64 d.2.open_)],⟨fbQ O (.sm O O),fmQ O,fmQ O,fmQ O,ø⟩,rfl,⟨⟨_,rfl,.conv (.same rfl)⟩,ø⟩,rfl,rfl⟩
    ·
     refine Gm (u (Jr fun p=>(JLm (I64 310) O (G5 (p (Gs ?_))))))
     obtain rfl:=M7 h
     exact⟨[I64 310],[(1207,.box 94 (Ez m)),(1208,TP 90 Slot.kv Box.av m.on),(1209,TP 91 Ks Box.av m.quay),(1210,TP 92 Ks I64 m.open_)],⟨fbQ O (.sm O O),fmQ O,fmQ O,fmQ O,ø⟩,rfl,⟨⟨_,rfl,.conv (.same rfl)⟩,ø⟩,rfl,rfl⟩
end
end Go.Proofs.YtgcpimpnpcdmmaaGreat
