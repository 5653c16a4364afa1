/- Walks of functions. -/
import Derived.Test.YtgcpimpnpcdmmaaGreatSpecK
set_option maxRecDepth 100000
set_option maxHeartbeats 1000000
set_option linter.unusedVariables false
set_option linter.unusedSimpArgs false
namespace Go.Proofs.YtgcpimpnpcdmmaaGreat
open Go.RowKit
noncomputable section
structure Move where
 Kind:Int
 Box:Int
 Slot:Slot
 G9:Int
 deriving DecidableEq,Inhabited
def Move.cs (x:Move):List AV:=[U8 x.Kind,I64 x.Box,I64 x.Slot.G3,I64 x.Slot.Tier,U8 x.Slot.Half,I64 x.G9]
def Move.av (x:Move):AV:=.agg x.cs
abbrev Ef (x:Move):AV:=.dptr (Move.cs x)
abbrev Ea:=LS 6 Move.av
namespace XTF
open XAF
open XCF
open XSF
open XKF
theorem H19:H25 En 59 6=true:=by kernel_rfl
theorem Ge1:Gz En 123=true:=by kernel_rfl
theorem R85:Gz En 125=true:=by kernel_rfl
theorem Rfa:Gz En 41=true:=by kernel_rfl
theorem Rf9:Gz En 42=true:=by kernel_rfl
theorem Rf8:Gz En 43=true:=by kernel_rfl
theorem Q7f:Gz En 63=true:=by kernel_rfl
theorem Q7e:Gz En 64=true:=by kernel_rfl
theorem Q7d:Gz En 65=true:=by kernel_rfl
theorem Q7c:Gz En 71=true:=by kernel_rfl
theorem Rf0:Gz En 73=true:=by kernel_rfl
theorem J87:Gz En 74=true:=by kernel_rfl
theorem Ref:Gz En 75=true:=by kernel_rfl
theorem J86:Gz En 76=true:=by kernel_rfl
theorem H17:Gz En 77=true:=by kernel_rfl
theorem Ree:Gz En 78=true:=by kernel_rfl
theorem Red:Gz En 79=true:=by kernel_rfl
theorem Rec:Gz En 80=true:=by kernel_rfl
theorem Q7b:Gz En 81=true:=by kernel_rfl
theorem Reb:Gz En 82=true:=by kernel_rfl
theorem Rea:Gz En 83=true:=by kernel_rfl
theorem Re9:Gz En 84=true:=by kernel_rfl
theorem Re8:Gz En 85=true:=by kernel_rfl
theorem Re7:Gz En 86=true:=by kernel_rfl
theorem Re6:Gz En 87=true:=by kernel_rfl
theorem Re5:Gz En 88=true:=by kernel_rfl
theorem Re4:Gz En 89=true:=by kernel_rfl
theorem Q7a:Gz En 90=true:=by kernel_rfl
theorem H2d:Jp En 59 0 0=true:=by kernel_rfl
theorem Gbd:Jp En 59 1 1=true:=by kernel_rfl
theorem Qt:Jp En 59 2 2=true:=by kernel_rfl
theorem G17:Jp En 59 3 5=true:=by kernel_rfl
theorem G3c:Jp En 94 2 14=true:=by kernel_rfl
theorem Jc:R4 En 52=true:=by kernel_rfl
theorem G70:Y2 En 3 1=true:=by kernel_rfl
theorem R01:Y2 En 4 1=true:=by kernel_rfl
theorem Rd9:Qz En 4 1=true:=by kernel_rfl
theorem J4b:(En.info? 103).bind (·.zero)=some (.agg #[E0,.string ByteArray.empty,.int .u8 0,.bool false,E0,E0,E0,.int .u8 0,.bool false]):=by kernel_rfl
end XTF
open XAF
open XCF
open XSF
open XKF
open XTF

def G0f (y:Slot) (a:Gc) (c:Move):Option Bool:=
 Qy a.ship.Columns y.G3 fun b=>
 bnd (bif b.Deck then R8 a.ship y.G3 else some default) fun d=>
 some (b.Deck&&(decide (d=c.G9)))
theorem J15 (y:Slot) (b:Gc) (a:Move) (r:Bool) (h:G0f y b a=some r):Pure En 75 [.agg [I64 y.G3,I64 y.Tier,U8 y.Half],.dptr [.dptr (Gc.cs b)],.dptr [U8 a.Kind,I64 a.Box,I64 a.Slot.G3,I64 a.Slot.Tier,U8 a.Slot.Half,I64 a.G9]] (·=BL r):=by
 unfold G0f at h
 refine Gx [.tmp 4] Tryz.func75 O O (Jr fun e=>(JLh (.ptr 1139 0) (Q2 (cs:=[I64 y.G3,I64 y.Tier,U8 y.Half]) 1139 O O O O O) O (JLm (BL false) O (G5 (e (Gp [(1,.dptr [.dptr (Gc.cs b)]),(2,.dptr [U8 a.Kind,I64 a.Box,I64 a.Slot.G3,I64 a.Slot.Tier,U8 a.Slot.Half,I64 a.G9]),(3,.dptr [I64 y.G3,I64 y.Tier,U8 y.Half])] [] 1139 rfl rfl rfl ø rfl (by exact⟨.conv (.same rfl),.conv (.same rfl),.ptr,ø⟩) (Js fun g=>?_)))))))
 obtain⟨l,c,i,j,h⟩:=Zs h
 obtain⟨d,k,h⟩:=Ge h
 refine JC_d0 Ja (by kernel_rfl) (Dq (Eg b) (Gg Jc O O O) O (Dq (Eg b) (G63 O O) O (Dq (Eg b) (Ga Yh O O O) O (Dq (Eg b) (Ga J5 O O O) O (Dq (E3 b.ship.Columns) (Gg Jn O O O) O (Dq (.dptr [I64 y.G3,I64 y.Tier,U8 y.Half]) (Ga J4 O O O) O (Dq (I64 y.G3) (Gg Gb O O O) O (Dq (Ej c) (Hg (f:=G3.av) (xs:=b.ship.Columns) (y:=c) O O O Hx j i) O (Dq (.dptr ((G3.cs c).drop 2)) (Ga Yf O O O) O (Dq (BL c.Deck) (Gg Qb O O O) O (Dq (BL c.Deck) (G6 O O) O (Do (Eg b) [] O .sct ø (fun hc=>Gg Jc O O O) O (Do (Eg b) [16] O .sct ⟨Ua,ø⟩ (fun hc=>G63 O O) O ?_)))))))))))))
 refine Do (Eg b) [17] O .sct ⟨Ua,ø⟩ (fun hc=>Ga Yh O O O) O (Do (.agg (Gh.cs b.ship)) [18] O .sct ⟨Ua,ø⟩ (fun hc=>Gk Jh O O O) O (Do (.dptr [I64 y.G3,I64 y.Tier,U8 y.Half]) [] O .sct ø (fun hc=>Ga J4 O O O) O (Do (I64 y.G3) [20] O .sct ⟨Ua,ø⟩ (fun hc=>Gg Gb O O O) O (Do (I64 d) [19,21] O .sct ⟨Ua,Ua,ø⟩ (fun hc=>Gw (args:=[.agg (Gh.cs b.ship),I64 y.G3]) O (G52 b.ship y.G3 d (H5 hc k)) H6f ⟨O,O,O,O,ø⟩) O (Do (.dptr [I64 a.G9]) [] O .sct ø (fun hc=>Ga G17 O O O) O (Do (I64 a.G9) [23] O .sct ⟨Ua,ø⟩ (fun hc=>Gg Gb O O O) O (Do (BL (decide (d=a.G9))) [22,24] O .sct ⟨Ua,Ua,ø⟩ (fun hc=>Qm O O O) O (Dq (BL (c.Deck&&(decide (d=a.G9)))) (Y3 O O O O) O (Dq (BL (c.Deck&&(decide (d=a.G9)))) (G7 O O) O (Dnil ?_))))))))))
 refine g (Gs (fin1 BL h))

def G01 (a:Bool) (b:Gc) (c:Move):Option Bool:=
 bnd (bif (!(!a)) then Zo b (fun z0=>G0f z0 b c) else some default) fun d=>
 some ((!a)||(!d))
theorem J6d (c:Bool) (a:Gc) (d:Move) (r:Bool) (h:G01 c a d=some r):Pure En 73 [.dptr [BL c],.dptr [.dptr (Gc.cs a)],Ef d] (·=BL r):=by
 unfold G01 at h
 refine Gx [.tmp 3] Tryz.func73 O O (Jr fun f=>(JLm (BL false) O (G5 (f (Jr fun g=>(JLh (BL c) (Gg Qb O O O) O (JLh (BL (!c)) (Yc (b:=c) O O) O (JLm (BL (!c)) O (JLo (Eg a) [] O .scf ø (fun hc=>Gg Jc O O O) O (JLo (.fn 75 [.dptr [.dptr (Gc.cs a)],Ef d]) [] O .scf ø (fun hc=>Q4 (cs:=[.dptr [.dptr (Gc.cs a)],Ef d]) O O) O ?_))))))))))
 obtain⟨e,i,h⟩:=Ge h
 refine JLo (BL e) [7,8] O .scf ⟨Ua,Ua,ø⟩ (fun hc=>Gw (args:=[.dptr (Gc.cs a),.fn 75 [.dptr [.dptr (Gc.cs a)],Ef d]]) O (H52.down a (fun z0=>G0f z0 a d) 75 [.dptr [.dptr (Gc.cs a)],Ef d] Ref O (fun z0 q hq=>J15 z0 a d q hq) e (H5 hc i)) J87 ⟨O,O,O,O,ø⟩) O (JLo (BL (!e)) [9] O .scf ⟨Ua,ø⟩ (fun hc=>Yc (b:=e) O O) O (JLh (BL ((!c)||(!e))) (G7e O O O O) O (JLm (BL ((!c)||(!e))) O (G5 (g (Gs (fin1 BL h)))))))

def G07 (m:Gc) (x:Move):Option (Int×Gc):=
 bnd (H47 ((((decide (x.Box=0))&&(decide (x.Slot=(Slot.mk 0 0 0))))&&(decide (0≤x.G9)))&&(decide (x.G9 < (m.ship.Covers.length:Int)))) 310) fun g=>
 bnd (some (Gu.get m.open_ x.G9 0)) fun b=>
 bnd (H47 (!((decide (0 < b))==(decide (x.Kind=1)))) 311) fun h=>
 bnd (H33 [(Yp ((((decide (x.Box=0))&&(decide (x.Slot=(Slot.mk 0 0 0))))&&(decide (0≤x.G9)))&&(decide (x.G9 < (m.ship.Covers.length:Int)))),310),
  (Yp (!((decide (0 < b))==(decide (x.Kind=1)))),311),
  (G01 (decide (x.Kind=1)) m (Move.mk x.Kind x.Box x.Slot x.G9),312)]) fun c=>
 bif decide (c≠0) then
 (some (c,m))
 else
 (jp (fun a=>
   bif decide (x.Kind=1) then
   (bnd (some (Gu.get m.open_ x.G9 0)) fun d=>
    chk (d+1) fun e=>
    a (Gc.mk m.ship m.on m.quay (Gu.put m.open_ x.G9 e) m.lifts))
   else
   (a (Gc.mk m.ship m.on m.quay (Gu.del m.open_ x.G9) m.lifts))) fun(f:Gc)=>
  some (0,f))
abbrev Es (m:Gc):List AV:=[E3 m.ship.Columns,E8 m.ship.Covers,I64 m.ship.Light.Kilos,I64 m.ship.Light.X,I64 m.ship.Light.Y,I64 m.ship.Light.Z,E4 m.ship.Rows,E5 m.ship.Frames,E6 m.ship.Tanks,I64 m.ship.G8.Tolerance,I64 m.ship.G8.Trim,I64 m.ship.G8.List_,I64 m.ship.G8.Stability,.mp 1203,.mp 1204,.mp 1205,I64 m.lifts]
abbrev Eu (x:Move) (m:Gc):List AV:=[.dptr [BL ((((decide (x.Box=0))&&(decide (x.Slot=(Slot.mk 0 0 0))))&&(decide (0≤x.G9)))&&(decide (x.G9 < (m.ship.Covers.length:Int))))]]
abbrev Ev (x:Move):List AV:=[.dptr [BL (decide (x.Kind=1))],.ptr 1068 0,Ef x]
abbrev Ew (a:Gc):List AV:=[E3 a.ship.Columns,E8 a.ship.Covers,I64 a.ship.Light.Kilos,I64 a.ship.Light.X,I64 a.ship.Light.Y,I64 a.ship.Light.Z,E4 a.ship.Rows,E5 a.ship.Frames,E6 a.ship.Tanks,I64 a.ship.G8.Tolerance,I64 a.ship.G8.Trim,I64 a.ship.G8.List_,I64 a.ship.G8.Stability,.mp 1203,.mp 1204,.mp 1205,I64 a.lifts]
theorem Jd0 (m:Gc) (x:Move) (r:Int×Gc) (h:G07 m x=some r):J3 En 41 [.ptr 1202 0,.agg (Move.cs x)] [(1202,.box 94 [E3 m.ship.Columns,E8 m.ship.Covers,I64 m.ship.Light.Kilos,I64 m.ship.Light.X,I64 m.ship.Light.Y,I64 m.ship.Light.Z,E4 m.ship.Rows,E5 m.ship.Frames,E6 m.ship.Tanks,I64 m.ship.G8.Tolerance,I64 m.ship.G8.Trim,I64 m.ship.G8.List_,I64 m.ship.G8.Stability,.mp 1203,.mp 1204,.mp 1205,I64 m.lifts]),(1203,TP 90 Slot.kv Box.av m.on),(1204,TP 91 Ks Box.av m.quay),(1205,TP 92 Ks I64 m.open_)] (fun av L'=>av=I64 r.1∧L'=[(1202,.box 94 [E3 r.2.ship.Columns,E8 r.2.ship.Covers,I64 r.2.ship.Light.Kilos,I64 r.2.ship.Light.X,I64 r.2.ship.Light.Y,I64 r.2.ship.Light.Z,E4 r.2.ship.Rows,E5 r.2.ship.Frames,E6 r.2.ship.Tanks,I64 r.2.ship.G8.Tolerance,I64 r.2.ship.G8.Trim,I64 r.2.ship.G8.List_,I64 r.2.ship.G8.Stability,.mp 1203,.mp 1204,.mp 1205,I64 r.2.lifts]),(1203,TP 90 Slot.kv Box.av r.2.on),(1204,TP 91 Ks Box.av r.2.quay),(1205,TP 92 Ks I64 r.2.open_)]):=by
 unfold G07 at h
 refine Jj [1202,1203,1204,1205] [.tmp 4] Tryz.func41 O O (G0d O) (Jr fun s=>(JLh (.ptr 1068 0) (Q2 (cs:=[.ptr 1202 0]) 1068 O O O O O) O (JLh (.ptr 1069 0) (Q2 (cs:=[U8 x.Kind,I64 x.Box,I64 x.Slot.G3,I64 x.Slot.Tier,U8 x.Slot.Half,I64 x.G9]) 1069 O O O O O) O (JLm (I64 0) O (G5 (s ?_))))))
 refine Gp [(2,.ptr 1068 0),(3,Ef x)] [(1202,.box 94 (Es m)),(1203,TP 90 Slot.kv Box.av m.on),(1204,TP 91 Ks Box.av m.quay),(1205,TP 92 Ks I64 m.open_),(1068,.box 52 [.ptr 1202 0])] 1069 rfl rfl rfl ⟨⟨_,rfl,.boxEq rfl rfl⟩,fmQ O,fmQ O,fmQ O,⟨_,rfl,.boxEq rfl rfl⟩,ø⟩ rfl (by exact⟨.conv (.same rfl),.ptr,ø⟩) ?_
 refine Jr fun t=>(JLh (Ef x) (Ga H2d O O O) O (JLh (U8 x.Kind) (Gg Ht O O O) O (JLh (BL (decide (x.Kind=1))) (Qm O O O) O (JLh (.ptr 1070 0) (Hm 1070 1 Rd9 O O) O (Ho (u:=.junk) (H7 (u:=BL (decide (x.Kind=1))) (ds:=[BL (decide (x.Kind=1))]) R01 O O O O O O O O) (G5 (t ?_)))))))
 refine Gp [(2,.ptr 1068 0),(3,Ef x),(5,.dptr [BL (decide (x.Kind=1))])] [(1202,.box 94 (Es m)),(1203,TP 90 Slot.kv Box.av m.on),(1204,TP 91 Ks Box.av m.quay),(1205,TP 92 Ks I64 m.open_),(1068,.box 52 [.ptr 1202 0])] 1070 rfl rfl rfl ⟨⟨_,rfl,.boxEq rfl rfl⟩,fmQ O,fmQ O,fmQ O,⟨_,rfl,.boxEq rfl rfl⟩,ø⟩ rfl (by exact⟨.conv (.same rfl),.conv (.same rfl),.ptr,ø⟩) ?_
 refine Jr fun w=>(JLh (.fn 73 (Ev x)) (Q4 (cs:=(Ev x)) O O) O (JLm (.fn 73 (Ev x)) O (G5 (w (Js fun y=>?_)))))
 refine Qs (l':=[(2,.ptr 1068 0),(3,Ef x),(5,.dptr [BL (decide (x.Kind=1))]),(6,.fn 73 (Ev x))]) (L':=[(1202,.box 94 (Es m)),(1203,TP 90 Slot.kv Box.av m.on),(1204,TP 91 Ks Box.av m.quay),(1205,TP 92 Ks I64 m.open_),(1068,.box 52 [.ptr 1202 0])]) ⟨(.sm O O),⟨fbQ O (.sm O O),fmQ O,fmQ O,fmQ O,fbQ O ⟨.same rfl,ø⟩,ø⟩,rfl⟩ ?_
 obtain⟨r5,z,h⟩:=Ge h
 obtain⟨c,a0,h⟩:=Ge h
 obtain⟨r7,a1,h⟩:=Ge h
 obtain⟨d,a2,h⟩:=Ge h
 refine Ju [39] [0,0,0,0,0,0,0,0,0,0,0,0,0,0,0,0,0,0,0,0,0,0,0,0,0,0,0,0,0,0,0,0,0,0,0,0,0,0,0,0,1,1] [0,0,0,0,0,0,0,0,0,0,0,0,0,0,0,0,0,0,0,0,0,0,0,0,0,0,0,0,0,0,0,0,0,0,0,0,0,0,0,0,1,1] [[(1202,.box 94 (Es m)),(1203,TP 90 Slot.kv Box.av m.on),(1204,TP 91 Ks Box.av m.quay),(1205,TP 92 Ks I64 m.open_),(1068,.box 52 [.ptr 1202 0])],((1071,.box 151 [.fn 123 (Eu x m),I64 310,.fn 123 [.dptr [BL (!((decide (0 < c))==(decide (x.Kind=1))))]],I64 311,.fn 73 (Ev x),I64 312])::[(1202,.box 94 (Es m)),(1203,TP 90 Slot.kv Box.av m.on),(1204,TP 91 Ks Box.av m.quay),(1205,TP 92 Ks I64 m.open_),(1068,.box 52 [.ptr 1202 0])])] Ja (by kernel_rfl) rfl rfl ?_
 refine Gf (u:=.dptr ((Move.cs x).drop 1)) O O ⟨Gi (Ga Gbd O O O) O,ø⟩ (Gf (u:=I64 x.Box) O O ⟨Gi (Gg Gb O O O) O,ø⟩ (Gf (u:=BL (decide (x.Box=0))) O O ⟨Gi (Qm O O O) O,ø⟩ (Gf (u:=BL (decide (x.Box=0))) O O ⟨Gi (G6 O O) O,ø⟩ (Gf (u:=.opt (decide (x.Box=0)) (.dptr ((Move.cs x).drop 2))) O O ⟨H9 [] O O O .sct ø (fun hc=>Ga Qt O O O) O,ø⟩ (Gf (u:=.opt (decide (x.Box=0)) (.agg (Slot.cs x.Slot))) O O ⟨H9 [(16,.dptr ((Move.cs x).drop 2))] O O O .sct ⟨.all id,ø⟩ (fun hc=>Gk J0 O O O) O,ø⟩ (Gf (u:=.opt (decide (x.Box=0)) (.agg [I64 0,I64 0,U8 0])) O O ⟨H9 [] O O O .sct ø (fun hc=>He (cs:=[I64 0,I64 0,U8 0]) [(0,1),(1,1),(2,1)] [I64 0,I64 0,U8 0] [E0,E0,.int .u8 0] Gf2 Gd1 (zzQ O) O O) O,ø⟩ (Gf (u:=.opt (decide (x.Box=0)) (BL (decide (x.Slot=(Slot.mk 0 0 0))))) O O ⟨H9 [(17,.agg (Slot.cs x.Slot)),(18,.agg [I64 0,I64 0,U8 0])] O O O .sct ⟨.all id,.all id,ø⟩ (fun hc=>Y74 (vs:=[.int .i64 x.Slot.G3,.int .i64 x.Slot.Tier,.int .u8 x.Slot.Half]) (us:=[E0,E0,.int .u8 0]) 4 O (Y4a x.Slot (Slot.mk 0 0 0)) J27 Je2 O O O) O,ø⟩ (Gf (u:=BL ((decide (x.Box=0))&&(decide (x.Slot=(Slot.mk 0 0 0))))) O O ⟨Gi (Y3 O O O O) O,ø⟩ (Gf (u:=BL ((decide (x.Box=0))&&(decide (x.Slot=(Slot.mk 0 0 0))))) O O ⟨Gi (G6 O O) O,ø⟩ (Gf (u:=.opt ((decide (x.Box=0))&&(decide (x.Slot=(Slot.mk 0 0 0)))) (.dptr [I64 x.G9])) O O ⟨H9 [] O O O .sct ø (fun hc=>Ga G17 O O O) O,ø⟩ (Gf (u:=.opt ((decide (x.Box=0))&&(decide (x.Slot=(Slot.mk 0 0 0)))) (I64 x.G9)) O O ⟨H9 [(22,.dptr [I64 x.G9])] O O O .sct ⟨.all id,ø⟩ (fun hc=>Gg Gb O O O) O,ø⟩ (Gf (u:=.opt ((decide (x.Box=0))&&(decide (x.Slot=(Slot.mk 0 0 0)))) (BL (decide (0≤x.G9)))) O O ⟨H9 [(23,I64 x.G9)] O O O .sct ⟨.all id,ø⟩ (fun hc=>H13 O O O) O,ø⟩ (Gf (u:=BL (((decide (x.Box=0))&&(decide (x.Slot=(Slot.mk 0 0 0))))&&(decide (0≤x.G9)))) O O ⟨Gi (Y3 O O O O) O,ø⟩ ?_)))))))))))))
 refine Gf (u:=BL (((decide (x.Box=0))&&(decide (x.Slot=(Slot.mk 0 0 0))))&&(decide (0≤x.G9)))) O O ⟨Gi (G6 O O) O,ø⟩ (Gf (u:=.opt (((decide (x.Box=0))&&(decide (x.Slot=(Slot.mk 0 0 0))))&&(decide (0≤x.G9))) (.dptr [I64 x.G9])) O O ⟨H9 [] O O O .sct ø (fun hc=>Ga G17 O O O) O,ø⟩ (Gf (u:=.opt (((decide (x.Box=0))&&(decide (x.Slot=(Slot.mk 0 0 0))))&&(decide (0≤x.G9))) (I64 x.G9)) O O ⟨H9 [(27,.dptr [I64 x.G9])] O O O .sct ⟨.all id,ø⟩ (fun hc=>Gg Gb O O O) O,ø⟩ (Gf (u:=.opt (((decide (x.Box=0))&&(decide (x.Slot=(Slot.mk 0 0 0))))&&(decide (0≤x.G9))) (.ptr 1202 0)) O O ⟨H9 [] O O O .sct ø (fun hc=>Hz Jc O O O O) O,ø⟩ (Gf (u:=.opt (((decide (x.Box=0))&&(decide (x.Slot=(Slot.mk 0 0 0))))&&(decide (0≤x.G9))) (.ptr 1202 0)) O O ⟨H9 [(29,.ptr 1202 0)] O O O .sct ⟨.all id,ø⟩ (fun hc=>Yj O O) O,ø⟩ (Gf (u:=.opt (((decide (x.Box=0))&&(decide (x.Slot=(Slot.mk 0 0 0))))&&(decide (0≤x.G9))) (.ptr 1202 0)) O O ⟨H9 [(30,.ptr 1202 0)] O O O .sct ⟨.all id,ø⟩ (fun hc=>J2 Yh O O) O,ø⟩ (Gf (u:=.opt (((decide (x.Box=0))&&(decide (x.Slot=(Slot.mk 0 0 0))))&&(decide (0≤x.G9))) (.ptr 1202 1)) O O ⟨H9 [(31,.ptr 1202 0)] O O O .sct ⟨.all id,ø⟩ (fun hc=>J2 Y0 O O) O,ø⟩ (Gf (u:=.opt (((decide (x.Box=0))&&(decide (x.Slot=(Slot.mk 0 0 0))))&&(decide (0≤x.G9))) (E8 m.ship.Covers)) O O ⟨H9 [(32,.ptr 1202 1)] O O O .sct ⟨.all id,ø⟩ (fun hc=>Hz Zi O O O O) O,ø⟩ (Gf (u:=.opt (((decide (x.Box=0))&&(decide (x.Slot=(Slot.mk 0 0 0))))&&(decide (0≤x.G9))) (Em m.ship.Covers.length)) O O ⟨H9 [(33,E8 m.ship.Covers)] O O O .sct ⟨.all id,ø⟩ (fun hc=>H55 (f:=G9.av) (xs:=m.ship.Covers) Qi O O) O,ø⟩ (Gf (u:=.opt (((decide (x.Box=0))&&(decide (x.Slot=(Slot.mk 0 0 0))))&&(decide (0≤x.G9))) (BL (decide (x.G9 < (m.ship.Covers.length:Int))))) O O ⟨H9 [(28,I64 x.G9),(34,Em m.ship.Covers.length)] O O O .sct ⟨.all id,.all id,ø⟩ (fun hc=>Jq O O O) O,ø⟩ (Gf (u:=BL ((((decide (x.Box=0))&&(decide (x.Slot=(Slot.mk 0 0 0))))&&(decide (0≤x.G9)))&&(decide (x.G9 < (m.ship.Covers.length:Int))))) O O ⟨Gi (Y3 O O O O) O,ø⟩ (Gf (u:=.agg [.fn 123 (Eu x m),I64 310]) O O ⟨Gi (Gw O (H26 ((((decide (x.Box=0))&&(decide (x.Slot=(Slot.mk 0 0 0))))&&(decide (0≤x.G9)))&&(decide (x.G9 < (m.ship.Covers.length:Int)))) 310 r5 z) H17 ⟨O,O,O,O,ø⟩) O,ø⟩ (Gf (u:=.ptr 1202 0) O O ⟨Gi (Hz Jc O O O O) O,ø⟩ (Gf (u:=.ptr 1202 0) O O ⟨Gi (Yj O O) O,ø⟩ ?_)))))))))))))
 refine Gf (u:=.ptr 1202 15) O O ⟨Gi (J2 G74 O O) O,ø⟩ (Gf (u:=.mp 1205) O O ⟨Gi (Hz G5b O O O O) O,ø⟩ (Gf (u:=.dptr [I64 x.G9]) O O ⟨Gi (Ga G17 O O O) O,ø⟩ (Gf (u:=I64 x.G9) O O ⟨Gi (Gg Gb O O O) O,ø⟩ (Gf (u:=I64 c) O O ⟨Gi (((M7 a0) ▸ Ja5 (av:=I64) (m:=m.open_) (a:=x.G9) 0 E0 (fun _=>O) O (.own O) O J68 Ge0 H2b O)) O,ø⟩ (Gf (u:=BL (decide (0 < c))) O O ⟨Gi (H0c O O O) O,ø⟩ (Gf (u:=BL (decide (x.Kind=1))) O O ⟨Gi (Gg Qb O O O) O,ø⟩ (Gf (u:=BL (!((decide (0 < c))==(decide (x.Kind=1))))) O O ⟨Gi (Rce H68 O O O) O,ø⟩ (Gf (u:=.agg [.fn 123 [.dptr [BL (!((decide (0 < c))==(decide (x.Kind=1))))]],I64 311]) O O ⟨Gi (Gw O (H26 (!((decide (0 < c))==(decide (x.Kind=1)))) 311 r7 a1) H17 ⟨O,O,O,O,ø⟩) O,ø⟩ (Gf (u:=.fn 73 (Ev x)) O O ⟨Gi (G6 O O) O,ø⟩ (Gf (u:=.agg [.fn 73 (Ev x),I64 312]) O O ⟨Gi (He (cs:=[.fn 73 (Ev x),I64 312]) [(0,1),(1,1)] [.sc .nilFunc,I64 0] [.nilFunc,E0] Zk G14 (zzQ O) O O) O,ø⟩ (D_w (u:=.ms 1071 0 3 3) O O O O (Gi (Q09 1071 (xs:=[.agg [.fn 123 (Eu x m),I64 310],.agg [.fn 123 [.dptr [BL (!((decide (0 < c))==(decide (x.Kind=1))))]],I64 311],.agg [.fn 73 (Ev x),I64 312]]) (cs:=[.fn 123 (Eu x m),I64 310,.fn 123 [.dptr [BL (!((decide (0 < c))==(decide (x.Kind=1))))]],I64 311,.fn 73 (Ev x),I64 312]) O ⟨O,O,O,ø⟩ O Gf0 H5c O O O O O) O) ?_)))))))))))
 refine Gf (u:=I64 d) O O ⟨Gi (Ga0 O (Qc1.down [J1.mk 123 (Eu x m) (Yp ((((decide (x.Box=0))&&(decide (x.Slot=(Slot.mk 0 0 0))))&&(decide (0≤x.G9)))&&(decide (x.G9 < (m.ship.Covers.length:Int))))) 310 Ge1 O (fun q hq=>Gac ((((decide (x.Box=0))&&(decide (x.Slot=(Slot.mk 0 0 0))))&&(decide (0≤x.G9)))&&(decide (x.G9 < (m.ship.Covers.length:Int)))) q hq),
 J1.mk 123 [.dptr [BL (!((decide (0 < c))==(decide (x.Kind=1))))]] (Yp (!((decide (0 < c))==(decide (x.Kind=1))))) 311 Ge1 rfl (fun q hq=>Gac (!((decide (0 < c))==(decide (x.Kind=1)))) q hq),
 J1.mk 73 [.dptr [BL (decide (x.Kind=1))],.dptr [.dptr (Gc.cs m)],Ef x] (G01 (decide (x.Kind=1)) m (Move.mk x.Kind x.Box x.Slot x.G9)) 312 Rf0 rfl (fun q hq=>J6d (decide (x.Kind=1)) m (Move.mk x.Kind x.Box x.Slot x.G9) q hq)] d a2) J86 ⟨.msL rfl rfl rfl ⟨.data O O,.data O O,.data O O,.data O O,.fnL ⟨.data O O,.ptrL rfl ⟨.ptrL rfl (dnQ 13 O O ⟨.mp rfl,.mp rfl,.mp rfl,.data O O,trivial⟩),trivial⟩,.data O O,trivial⟩,.data O O,trivial⟩,trivial⟩ rfl) rfl,trivial⟩ ?_ rfl
 refine Gf (u:=I64 d) O O ⟨Gi (G7 O O) O,ø⟩ (Rz (y (Js fun a3=>Jr fun i=>(JLm (I64 d) O (JLh (BL (decide (d≠0))) (H0a O O O) O (G5 (i (JCc O h (fun h hb=>?_) (fun h hb=>?_)))))))))
 ·
  refine Jr fun j=>(JLm (I64 d) O (JLm (I64 d) O (G5 (j (Gs ?_)))))
  obtain rfl:=M7 h
  exact⟨[I64 d],[(1202,.box 94 (Es m)),(1203,TP 90 Slot.kv Box.av m.on),(1204,TP 91 Ks Box.av m.quay),(1205,TP 92 Ks I64 m.open_)],⟨fbQ O (.sm O O),fmQ O,fmQ O,fmQ O,ø⟩,rfl,⟨⟨_,rfl,.conv (.same rfl)⟩,ø⟩,rfl,rfl⟩
 ·
  refine Gn (a3 ?_)
  obtain⟨k,g,h⟩:=Rv h
  refine Qr (fun b:Gc=>k b=some r) (fun b=>[]) (fun b=>[(1202,.box 94 (Ew b)),(1203,TP 90 Slot.kv Box.av b.on),(1204,TP 91 Ks Box.av b.quay),(1205,TP 92 Ks I64 b.open_),(1068,.box 52 [.ptr 1202 0]),(1071,.box 151 [.fn 123 (Eu x m),I64 310,.fn 123 [.dptr [BL (!((decide (0 < c))==(decide (x.Kind=1))))]],I64 311,.fn 73 (Ev x),I64 312])]) (fun Kj12 ej12=>?_) ?_
  ·
   refine Jr fun l=>(JLh (BL (decide (x.Kind=1))) (Gg Qb O O O) O (G5 (l (JCc O h (fun h hb=>?_) (fun h hb=>?_)))))
   ·
    refine Qs (l':=[(2,.ptr 1068 0),(3,Ef x)]) (L':=[(1202,.box 94 (Es m)),(1203,TP 90 Slot.kv Box.av m.on),(1204,TP 91 Ks Box.av m.quay),(1205,TP 92 Ks I64 m.open_),(1068,.box 52 [.ptr 1202 0]),(1071,.box 151 [.fn 123 (Eu x m),I64 310,.fn 123 [.dptr [BL (!((decide (0 < c))==(decide (x.Kind=1))))]],I64 311,.fn 73 (Ev x),I64 312])]) ⟨(.sm O O),⟨fbQ O (.sm O O),fmQ O,fmQ O,fmQ O,fbQ O ⟨.same rfl,ø⟩,fbQ O (.sm O O),ø⟩,rfl⟩ ?_
    obtain⟨a4,n,h⟩:=Ge h
    obtain⟨e,o,h⟩:=J6 h
    refine Ju [8] [0,0,0,0,0,0,0,0,0] [0,0,0,0,0,0,0,0,0] [[(1202,.box 94 (Es m)),(1203,TP 90 Slot.kv Box.av m.on),(1204,TP 91 Ks Box.av m.quay),(1205,TP 92 Ks I64 m.open_),(1068,.box 52 [.ptr 1202 0]),(1071,.box 151 [.fn 123 (Eu x m),I64 310,.fn 123 [.dptr [BL (!((decide (0 < c))==(decide (x.Kind=1))))]],I64 311,.fn 73 (Ev x),I64 312])],((1205,TP 92 Ks I64 (Gu.put m.open_ x.G9 e))::[(1202,.box 94 (Es m)),(1203,TP 90 Slot.kv Box.av m.on),(1204,TP 91 Ks Box.av m.quay),(1205,TP 92 Ks I64 m.open_),(1068,.box 52 [.ptr 1202 0]),(1071,.box 151 [.fn 123 (Eu x m),I64 310,.fn 123 [.dptr [BL (!((decide (0 < c))==(decide (x.Kind=1))))]],I64 311,.fn 73 (Ev x),I64 312])])] Ja (by kernel_rfl) rfl rfl ?_
    refine Gf (u:=.ptr 1202 0) O O ⟨Gi (Hz Jc O O O O) O,ø⟩ (Gf (u:=.ptr 1202 0) O O ⟨Gi (Yj O O) O,ø⟩ (Gf (u:=.ptr 1202 15) O O ⟨Gi (J2 G74 O O) O,ø⟩ (Gf (u:=.mp 1205) O O ⟨Gi (Hz G5b O O O O) O,ø⟩ (Gf (u:=.dptr [I64 x.G9]) O O ⟨Gi (Ga G17 O O O) O,ø⟩ (Gf (u:=I64 x.G9) O O ⟨Gi (Gg Gb O O O) O,ø⟩ (Gf (u:=I64 a4) O O ⟨Gi (((M7 n) ▸ Ja5 (av:=I64) (m:=m.open_) (a:=x.G9) 0 E0 (fun _=>O) O (.own O) O J68 Ge0 H2b O)) O,ø⟩ (Gf (u:=I64 e) O O ⟨Gi (Jb o O O O) O,ø⟩ (H29 (u:=.junk) O O O O (Gi (H0b (m:=m.open_) (a:=x.G9) (v:=e) (fun _=>O) O O O O O O J68 Ge0) O) (Rz ?_)))))))))
    exact ej12 _ _ (Gc.mk m.ship m.on m.quay (Gu.put m.open_ x.G9 e) m.lifts) h ⟨ø,⟨fbQ O (.sm O O),fmQ O,fmQ O,fmQ O,fbQ O ⟨.same rfl,ø⟩,fbQ O (.sm O O),ø⟩,rfl⟩
   ·
    refine Qs (l':=[(2,.ptr 1068 0),(3,Ef x)]) (L':=[(1202,.box 94 (Es m)),(1203,TP 90 Slot.kv Box.av m.on),(1204,TP 91 Ks Box.av m.quay),(1205,TP 92 Ks I64 m.open_),(1068,.box 52 [.ptr 1202 0]),(1071,.box 151 [.fn 123 (Eu x m),I64 310,.fn 123 [.dptr [BL (!((decide (0 < c))==(decide (x.Kind=1))))]],I64 311,.fn 73 (Ev x),I64 312])]) ⟨(.sm O O),⟨fbQ O (.sm O O),fmQ O,fmQ O,fmQ O,fbQ O ⟨.same rfl,ø⟩,fbQ O (.sm O O),ø⟩,rfl⟩ ?_
    refine Ju [6] [0,0,0,0,0,0,0] [0,0,0,0,0,0,0] [[(1202,.box 94 (Es m)),(1203,TP 90 Slot.kv Box.av m.on),(1204,TP 91 Ks Box.av m.quay),(1205,TP 92 Ks I64 m.open_),(1068,.box 52 [.ptr 1202 0]),(1071,.box 151 [.fn 123 (Eu x m),I64 310,.fn 123 [.dptr [BL (!((decide (0 < c))==(decide (x.Kind=1))))]],I64 311,.fn 73 (Ev x),I64 312])],((1205,TP 92 Ks I64 (Gu.del m.open_ x.G9))::[(1202,.box 94 (Es m)),(1203,TP 90 Slot.kv Box.av m.on),(1204,TP 91 Ks Box.av m.quay),(1205,TP 92 Ks I64 m.open_),(1068,.box 52 [.ptr 1202 0]),(1071,.box 151 [.fn 123 (Eu x m),I64 310,.fn 123 [.dptr [BL (!((decide (0 < c))==(decide (x.Kind=1))))]],I64 311,.fn 73 (Ev x),I64 312])])] Ja (by kernel_rfl) rfl rfl ?_
    refine Gf (u:=.ptr 1202 0) O O ⟨Gi (Hz Jc O O O O) O,ø⟩ (Gf (u:=.ptr 1202 0) O O ⟨Gi (Yj O O) O,ø⟩ (Gf (u:=.ptr 1202 15) O O ⟨Gi (J2 G74 O O) O,ø⟩ (Gf (u:=.mp 1205) O O ⟨Gi (Hz G5b O O O O) O,ø⟩ (Gf (u:=.dptr [I64 x.G9]) O O ⟨Gi (Ga G17 O O O) O,ø⟩ (Gf (u:=I64 x.G9) O O ⟨Gi (Gg Gb O O O) O,ø⟩ (H29 (u:=.tup []) O O O O (Gi (J06 (m:=m.open_) (a:=x.G9) (fun _=>O) O O O O J68 Ge0) O) (Rz (ej12 _ _ (Gc.mk m.ship m.on m.quay (Gu.del m.open_ x.G9) m.lifts) h ⟨ø,⟨fbQ O (.sm O O),fmQ O,fmQ O,fmQ O,fbQ O ⟨.same rfl,ø⟩,fbQ O (.sm O O),ø⟩,rfl⟩))))))))
  ·intro b h
   replace h:=app1 g h
   refine Jr fun p=>(JLm (I64 0) O (G5 (p (Gs ?_))))
   obtain rfl:=M7 h
   exact⟨[I64 0],[(1202,.box 94 (Ew b)),(1203,TP 90 Slot.kv Box.av b.on),(1204,TP 91 Ks Box.av b.quay),(1205,TP 92 Ks I64 b.open_)],⟨fbQ O (.sm O O),fmQ O,fmQ O,fmQ O,ø⟩,rfl,⟨⟨_,rfl,.conv (.same rfl)⟩,ø⟩,rfl,rfl⟩

def G38 (y:Slot) (a:Move):Option Bool:=
 bnd (Ge9 y a.Slot) fun b=>
 some b
theorem J6c (y:Slot) (a:Move) (r:Bool) (h:G38 y a=some r):Pure En 79 [.agg [I64 y.G3,I64 y.Tier,U8 y.Half],Ef a] (·=BL r):=by
 unfold G38 at h
 refine Gx [.tmp 3] Tryz.func79 O O (Jr fun c=>(JLh (.ptr 1143 0) (Q2 (cs:=[I64 y.G3,I64 y.Tier,U8 y.Half]) 1143 O O O O O) O (JLm (BL false) O (G5 (c (Gp [(1,Ef a),(2,.dptr [I64 y.G3,I64 y.Tier,U8 y.Half])] [] 1143 rfl rfl rfl ø rfl (by exact⟨.conv (.same rfl),.ptr,ø⟩) (Jr fun d=>(JLh (.agg [I64 y.G3,I64 y.Tier,U8 y.Half]) (Gk J0 O O O) O (JLh (.dptr ((Move.cs a).drop 2)) (Ga Qt O O O) O (JLh (.agg (Slot.cs a.Slot)) (Gk J0 O O O) O ?_))))))))))
 obtain⟨b,e,h⟩:=Ge h
 refine JLh (BL b) (Gw O (J7a y a.Slot b e) Q7c ⟨O,O,O,O,ø⟩) O (JLm (BL b) O (G5 (d (Gs (fin1 BL h)))))

def G68 (a:Gc) (b:Move):Option Bool:=
 bnd (Zo a (fun z0=>G38 z0 b)) fun c=>
 some (!c)
theorem Jcf (d:Gc) (a:Move) (r:Bool) (h:G68 d a=some r):Pure En 78 [.dptr [.dptr (Gc.cs d)],Ef a] (·=BL r):=by
 unfold G68 at h
 refine Gx [.tmp 2] Tryz.func78 O O (Jr fun e=>(JLm (BL false) O (G5 (e (Jr fun f=>(JLh (Eg d) (Gg Jc O O O) O (JLh (.fn 79 [.dptr (Move.cs a)]) (Q4 (cs:=[.dptr (Move.cs a)]) O O) O ?_)))))))
 obtain⟨c,g,h⟩:=Ge h
 refine JLh (BL c) (Gw O (H52.down d (fun z0=>G38 z0 a) 79 [.dptr (Move.cs a)] Red O (fun z0 q hq=>J6c z0 a q hq) c g) J87 ⟨O,O,O,O,ø⟩) O (JLh (BL (!c)) (Yc (b:=c) O O) O (JLm (BL (!c)) O (G5 (f (Gs (fin1 BL h))))))

def G67 (a:Gc) (b:Move):Option Bool:=
 Qy a.ship.Columns b.Slot.G3 fun c=>
 bnd (bif (!c.Deck) then G4f a b.Slot else some default) fun d=>
 some (c.Deck||(!d))
theorem Jce (a:Gc) (c:Move) (r:Bool) (h:G67 a c=some r):Pure En 80 [.dptr [.dptr (Gc.cs a)],Ef c] (·=BL r):=by
 unfold G67 at h
 refine Gx [.tmp 2] Tryz.func80 O O (Jr fun g=>(JLm (BL false) O (G5 (g (Js fun i=>?_)))))
 obtain⟨m,d,j,k,h⟩:=Zs h
 obtain⟨e,l,h⟩:=Ge h
 refine JC_d0 Ja (by kernel_rfl) (Dq (Eg a) (Gg Jc O O O) O (Dq (Eg a) (G63 O O) O (Dq (Eg a) (Ga Yh O O O) O (Dq (Eg a) (Ga J5 O O O) O (Dq (E3 a.ship.Columns) (Gg Jn O O O) O (Dq (.dptr ((Move.cs c).drop 2)) (Ga Qt O O O) O (Dq (.dptr ((Move.cs c).drop 2)) (Ga J4 O O O) O (Dq (I64 c.Slot.G3) (Gg Gb O O O) O (Dq (Ej d) (Hg (f:=G3.av) (xs:=a.ship.Columns) (y:=d) O O O Hx k j) O (Dq (.dptr ((G3.cs d).drop 2)) (Ga Yf O O O) O (Dq (BL d.Deck) (Gg Qb O O O) O (Dq (BL d.Deck) (G6 O O) O (Do (Eg a) [] O .scf ø (fun hc=>Gg Jc O O O) O ?_)))))))))))))
 refine Do (.dptr ((Move.cs c).drop 2)) [] O .scf ø (fun hc=>Ga Qt O O O) O (Do (.agg (Slot.cs c.Slot)) [16] O .scf ⟨Ua,ø⟩ (fun hc=>Gk J0 O O O) O (Do (BL e) [15,17] O .scf ⟨Ua,Ua,ø⟩ (fun hc=>Gw (args:=[.dptr (Gc.cs a),.agg (Slot.cs c.Slot)]) O (Hd9 a c.Slot e (H5 hc l)) Q7b ⟨O,O,O,O,ø⟩) O (Do (BL (!e)) [18] O .scf ⟨Ua,ø⟩ (fun hc=>Yc (b:=e) O O) O (Dq (BL (d.Deck||(!e))) (G7e O O O O) O (Dq (BL (d.Deck||(!e))) (G7 O O) O (Dnil (i (Gs (fin1 BL h)))))))))

def Gc7 (m:Gc) (x:Move):Option (Int×Gc):=
 bnd (some (Gu.get m.on x.Slot (Box.mk 0 ByteArray.empty 0 false 0 0 0 0 false))) fun a=>
 bnd (H47 (decide (x.G9=0)) 310) fun d=>
 bnd (H47 ((Gu.has m.on x.Slot)&&(decide (a.ID=x.Box))) 313) fun e=>
 bnd (H33 [(Yp (decide (x.G9=0)),310),
  (Yp ((Gu.has m.on x.Slot)&&(decide (a.ID=x.Box))),313),
  (G68 m (Move.mk x.Kind x.Box x.Slot x.G9),314),
  (G67 m (Move.mk x.Kind x.Box x.Slot x.G9),315)]) fun b=>
 bif decide (b≠0) then
 (some (b,m))
 else
 (chk (m.lifts+1) fun c=>
  some (0,(Gc.mk m.ship (Gu.del m.on x.Slot) (Gu.put m.quay a.ID a) m.open_ c)))
abbrev Ex (m:Gc):List AV:=[E3 m.ship.Columns,E8 m.ship.Covers,I64 m.ship.Light.Kilos,I64 m.ship.Light.X,I64 m.ship.Light.Y,I64 m.ship.Light.Z,E4 m.ship.Rows,E5 m.ship.Frames,E6 m.ship.Tanks,I64 m.ship.G8.Tolerance,I64 m.ship.G8.Trim,I64 m.ship.G8.List_,I64 m.ship.G8.Stability,.mp 1203,.mp 1204,.mp 1205,I64 m.lifts]
theorem Q4b (m:Gc) (x:Move) (r:Int×Gc) (h:Gc7 m x=some r):J3 En 42 [.ptr 1202 0,.agg (Move.cs x)] [(1202,.box 94 [E3 m.ship.Columns,E8 m.ship.Covers,I64 m.ship.Light.Kilos,I64 m.ship.Light.X,I64 m.ship.Light.Y,I64 m.ship.Light.Z,E4 m.ship.Rows,E5 m.ship.Frames,E6 m.ship.Tanks,I64 m.ship.G8.Tolerance,I64 m.ship.G8.Trim,I64 m.ship.G8.List_,I64 m.ship.G8.Stability,.mp 1203,.mp 1204,.mp 1205,I64 m.lifts]),(1203,TP 90 Slot.kv Box.av m.on),(1204,TP 91 Ks Box.av m.quay),(1205,TP 92 Ks I64 m.open_)] (fun av L'=>av=I64 r.1∧L'=[(1202,.box 94 [E3 r.2.ship.Columns,E8 r.2.ship.Covers,I64 r.2.ship.Light.Kilos,I64 r.2.ship.Light.X,I64 r.2.ship.Light.Y,I64 r.2.ship.Light.Z,E4 r.2.ship.Rows,E5 r.2.ship.Frames,E6 r.2.ship.Tanks,I64 r.2.ship.G8.Tolerance,I64 r.2.ship.G8.Trim,I64 r.2.ship.G8.List_,I64 r.2.ship.G8.Stability,.mp 1203,.mp 1204,.mp 1205,I64 r.2.lifts]),(1203,TP 90 Slot.kv Box.av r.2.on),(1204,TP 91 Ks Box.av r.2.quay),(1205,TP 92 Ks I64 r.2.open_)]):=by
 unfold Gc7 at h
 refine Jj [1202,1203,1204,1205] [.tmp 4] Tryz.func42 O O (G0d O) (Jr fun n=>(JLh (.ptr 1072 0) (Q2 (cs:=[.ptr 1202 0]) 1072 O O O O O) O (JLh (.ptr 1073 0) (Q2 (cs:=[U8 x.Kind,I64 x.Box,I64 x.Slot.G3,I64 x.Slot.Tier,U8 x.Slot.Half,I64 x.G9]) 1073 O O O O O) O (JLm (I64 0) O (G5 (n ?_))))))
 refine Gp [(2,.ptr 1072 0),(3,Ef x)] [(1202,.box 94 (Ex m)),(1203,TP 90 Slot.kv Box.av m.on),(1204,TP 91 Ks Box.av m.quay),(1205,TP 92 Ks I64 m.open_),(1072,.box 52 [.ptr 1202 0])] 1073 rfl rfl rfl ⟨⟨_,rfl,.boxEq rfl rfl⟩,fmQ O,fmQ O,fmQ O,⟨_,rfl,.boxEq rfl rfl⟩,ø⟩ rfl (by exact⟨.conv (.same rfl),.ptr,ø⟩) ?_
 refine Js fun o=>?_
 refine Qs (l':=[(2,.ptr 1072 0),(3,Ef x)]) (L':=[(1202,.box 94 (Ex m)),(1203,TP 90 Slot.kv Box.av m.on),(1204,TP 91 Ks Box.av m.quay),(1205,TP 92 Ks I64 m.open_),(1072,.box 52 [.ptr 1202 0])]) ⟨(.sm O O),⟨fbQ O (.sm O O),fmQ O,fmQ O,fmQ O,fbQ O ⟨.same rfl,ø⟩,ø⟩,rfl⟩ ?_
 obtain⟨b,e,h⟩:=Ge h
 refine Ju [10,11] [0,0,0,0,0,0,0,0,0,0,0,0,2] [1,1,1,1,1,1,1,1,1,2,0,0,2] [[(1202,.box 94 (Ex m)),(1203,TP 90 Slot.kv Box.av m.on),(1204,TP 91 Ks Box.av m.quay),(1205,TP 92 Ks I64 m.open_),(1072,.box 52 [.ptr 1202 0])],((1074,.box 103 [.junk,.junk,.junk,.junk,.junk,.junk,.junk,.junk,.junk])::[(1202,.box 94 (Ex m)),(1203,TP 90 Slot.kv Box.av m.on),(1204,TP 91 Ks Box.av m.quay),(1205,TP 92 Ks I64 m.open_),(1072,.box 52 [.ptr 1202 0])]),((1074,.box 103 (Box.cs b))::((1074,.box 103 [.junk,.junk,.junk,.junk,.junk,.junk,.junk,.junk,.junk])::[(1202,.box 94 (Ex m)),(1203,TP 90 Slot.kv Box.av m.on),(1204,TP 91 Ks Box.av m.quay),(1205,TP 92 Ks I64 m.open_),(1072,.box 52 [.ptr 1202 0])]))] Ja (by kernel_rfl) rfl rfl ?_
 refine Gf (u:=.ptr 1202 0) O O ⟨Gi (Hz Jc O O O O) O,Gi (Hz Jc O O O O) O,ø⟩ (Gf (u:=.ptr 1202 0) O O ⟨Gi (Yj O O) O,Gi (Yj O O) O,ø⟩ (Gf (u:=.ptr 1202 13) O O ⟨Gi (J2 Yg O O) O,Gi (J2 Yg O O) O,ø⟩ (Gf (u:=.mp 1203) O O ⟨Gi (Hz Yk O O O O) O,Gi (Hz Yk O O O O) O,ø⟩ (Gf (u:=.dptr ((Move.cs x).drop 2)) O O ⟨Gi (Ga Qt O O O) O,Gi (Ga Qt O O O) O,ø⟩ (Gf (u:=.agg (Slot.cs x.Slot)) O O ⟨Gi (Gk J0 O O O) O,Gi (Gk J0 O O O) O,ø⟩ (Gf (u:=.tup [.agg (Box.cs b),BL (Gu.has m.on x.Slot)]) O O ⟨Gi (((M7 e) ▸ J07 (av:=Box.av) (m:=m.on) (a:=x.Slot) (Box.mk 0 ByteArray.empty 0 false 0 0 0 0 false) (.agg #[E0,.string ByteArray.empty,.int .u8 0,.bool false,E0,E0,E0,.int .u8 0,.bool false]) (fun _=>O) O (.own O) O R6d G72 J4b O)) O,Gi (((M7 e) ▸ J07 (av:=Box.av) (m:=m.on) (a:=x.Slot) (Box.mk 0 ByteArray.empty 0 false 0 0 0 0 false) (.agg #[E0,.string ByteArray.empty,.int .u8 0,.bool false,E0,E0,E0,.int .u8 0,.bool false]) (fun _=>O) O (.own O) O R6d G72 J4b O)) O,ø⟩ (Gf (u:=.tup [.agg (Box.cs b),BL (Gu.has m.on x.Slot)]) O O ⟨Gi (G6 O O) O,Gi (G6 O O) O,ø⟩ (Gf (u:=.agg (Box.cs b)) O O ⟨Gi (H3 O O O) O,Gi (H3 O O O) O,ø⟩ (Gf (u:=BL (Gu.has m.on x.Slot)) O O ⟨Gi (H3 O O O) O,Gi (H3 O O O) O,Gi (H3 O O O) O,ø⟩ (D_w (u:=.ptr 1074 0) O O O O (Gi (Hm 1074 9 Qw O O) O) (H29 (u:=.junk) O O O O (Gi (H7 (u:=.agg (Box.cs b)) (ds:=(Box.cs b)) Rf O O O O O O O O) O) (Gf (u:=BL (Gu.has m.on x.Slot)) O O ⟨Gi (G7 O O) O,ø⟩ (Rz ?_)))))))))))))
 refine o ?_
 refine fzQ [(2,.ptr 1072 0),(3,Ef x),(5,Ei b),(6,BL (Gu.has m.on x.Slot))] [(1202,.box 94 (Ex m)),(1203,TP 90 Slot.kv Box.av m.on),(1204,TP 91 Ks Box.av m.quay),(1205,TP 92 Ks I64 m.open_),(1072,.box 52 [.ptr 1202 0])] 1074 rfl rfl rfl ⟨⟨_,rfl,.boxEq rfl rfl⟩,fmQ O,fmQ O,fmQ O,⟨_,rfl,.boxEq rfl rfl⟩,ø⟩ rfl ?_
 refine Jr fun p=>(JLh (.dptr [I64 x.G9]) (Ga G17 O O O) O (JLh (I64 x.G9) (Gg Gb O O O) O (JLh (BL (decide (x.G9=0))) (Qm O O O) O ?_)))
 obtain⟨r5,s,h⟩:=Ge h
 refine JLh (.agg [.fn 123 [.dptr [BL (decide (x.G9=0))]],I64 310]) (Gw O (H26 (decide (x.G9=0)) 310 r5 s) H17 ⟨O,O,O,O,ø⟩) O (JLm (BL (Gu.has m.on x.Slot)) O (JLm (BL (Gu.has m.on x.Slot)) O (JLo (Ei b) [] O .sct ø (fun hc=>Ga Qo O O O) O (JLo (I64 b.ID) [24] O .sct ⟨Ua,ø⟩ (fun hc=>Gg Gb O O O) O (JLo (.dptr ((Move.cs x).drop 1)) [] O .sct ø (fun hc=>Ga Gbd O O O) O (JLo (I64 x.Box) [26] O .sct ⟨Ua,ø⟩ (fun hc=>Gg Gb O O O) O (JLo (BL (decide (b.ID=x.Box))) [25,27] O .sct ⟨Ua,Ua,ø⟩ (fun hc=>Qm O O O) O (JLh (BL ((Gu.has m.on x.Slot)&&(decide (b.ID=x.Box)))) (Y3 O O O O) O ?_))))))))
 obtain⟨r6,t,h⟩:=Ge h
 refine JLh (.agg [.fn 123 [.dptr [BL ((Gu.has m.on x.Slot)&&(decide (b.ID=x.Box)))]],I64 313]) (Gw O (H26 ((Gu.has m.on x.Slot)&&(decide (b.ID=x.Box))) 313 r6 t) H17 ⟨O,O,O,O,ø⟩) O (JLh (.fn 78 [.ptr 1072 0,Ef x]) (Q4 (cs:=[.ptr 1072 0,Ef x]) O O) O (JLh (.agg [.fn 78 [.ptr 1072 0,Ef x],I64 314]) (He (cs:=[.fn 78 [.ptr 1072 0,Ef x],I64 314]) [(0,1),(1,1)] [.sc .nilFunc,I64 0] [.nilFunc,E0] Zk G14 (zzQ O) O O) O (JLh (.fn 80 [.ptr 1072 0,Ef x]) (Q4 (cs:=[.ptr 1072 0,Ef x]) O O) O (JLh (.agg [.fn 80 [.ptr 1072 0,Ef x],I64 315]) (He (cs:=[.fn 80 [.ptr 1072 0,Ef x],I64 315]) [(0,1),(1,1)] [.sc .nilFunc,I64 0] [.nilFunc,E0] Zk G14 (zzQ O) O O) O (JLh (.ms 1075 0 4 4) (Q09 1075 (xs:=[.agg [.fn 123 [.dptr [BL (decide (x.G9=0))]],I64 310],.agg [.fn 123 [.dptr [BL ((Gu.has m.on x.Slot)&&(decide (b.ID=x.Box)))]],I64 313],.agg [.fn 78 [.ptr 1072 0,Ef x],I64 314],.agg [.fn 80 [.ptr 1072 0,Ef x],I64 315]]) (cs:=[.fn 123 [.dptr [BL (decide (x.G9=0))]],I64 310,.fn 123 [.dptr [BL ((Gu.has m.on x.Slot)&&(decide (b.ID=x.Box)))]],I64 313,.fn 78 [.ptr 1072 0,Ef x],I64 314,.fn 80 [.ptr 1072 0,Ef x],I64 315]) O ⟨O,O,O,O,ø⟩ O Gf0 H5c O O O O O) O ?_)))))
 obtain⟨c,w,h⟩:=Ge h
 refine JLg (I64 c) (Ga0 O (Qc1.down [J1.mk 123 [.dptr [BL (decide (x.G9=0))]] (Yp (decide (x.G9=0))) 310 Ge1 O (fun q hq=>Gac (decide (x.G9=0)) q hq),
 J1.mk 123 [.dptr [BL ((Gu.has m.on x.Slot)&&(decide (b.ID=x.Box)))]] (Yp ((Gu.has m.on x.Slot)&&(decide (b.ID=x.Box)))) 313 Ge1 rfl (fun q hq=>Gac ((Gu.has m.on x.Slot)&&(decide (b.ID=x.Box))) q hq),
 J1.mk 78 [.dptr [.dptr (Gc.cs m)],Ef x] (G68 m (Move.mk x.Kind x.Box x.Slot x.G9)) 314 Ree rfl (fun q hq=>Jcf m (Move.mk x.Kind x.Box x.Slot x.G9) q hq),
 J1.mk 80 [.dptr [.dptr (Gc.cs m)],Ef x] (G67 m (Move.mk x.Kind x.Box x.Slot x.G9)) 315 Rec rfl (fun q hq=>Jce m (Move.mk x.Kind x.Box x.Slot x.G9) q hq)] c w) J86 ⟨.msL rfl rfl rfl ⟨.data O O,.data O O,.data O O,.data O O,.fnL ⟨.ptrL rfl ⟨.ptrL rfl (dnQ 13 O O ⟨.mp rfl,.mp rfl,.mp rfl,.data O O,trivial⟩),trivial⟩,.data O O,trivial⟩,.data O O,.fnL ⟨.ptrL rfl ⟨.ptrL rfl (dnQ 13 O O ⟨.mp rfl,.mp rfl,.mp rfl,.data O O,trivial⟩),trivial⟩,.data O O,trivial⟩,.data O O,trivial⟩,trivial⟩ rfl) ?_ rfl rfl rfl
 refine JLm (I64 c) O (G5 (p (Js fun y=>Jr fun z=>(JLm (I64 c) O (JLh (BL (decide (c≠0))) (H0a O O O) O (G5 (z (JCc O h (fun h hb=>?_) (fun h hb=>?_)))))))))
 ·
  refine Jr fun f=>(JLm (I64 c) O (JLm (I64 c) O (G5 (f (Gs ?_)))))
  obtain rfl:=M7 h
  exact⟨[I64 c],[(1202,.box 94 (Ex m)),(1203,TP 90 Slot.kv Box.av m.on),(1204,TP 91 Ks Box.av m.quay),(1205,TP 92 Ks I64 m.open_)],⟨fbQ O (.sm O O),fmQ O,fmQ O,fmQ O,ø⟩,rfl,⟨⟨_,rfl,.conv (.same rfl)⟩,ø⟩,rfl,rfl⟩
 ·
  refine Gn (y (Js fun g=>?_))
  refine Qs (l':=[(2,.ptr 1072 0),(3,Ef x),(5,Ei b)]) (L':=[(1202,.box 94 (Ex m)),(1203,TP 90 Slot.kv Box.av m.on),(1204,TP 91 Ks Box.av m.quay),(1205,TP 92 Ks I64 m.open_),(1072,.box 52 [.ptr 1202 0]),(1075,.box 151 [.fn 123 [.dptr [BL (decide (x.G9=0))]],I64 310,.fn 123 [.dptr [BL ((Gu.has m.on x.Slot)&&(decide (b.ID=x.Box)))]],I64 313,.fn 78 [.ptr 1072 0,Ef x],I64 314,.fn 80 [.ptr 1072 0,Ef x],I64 315])]) ⟨(.sm O O),⟨fbQ O (.sm O O),fmQ O,fmQ O,fmQ O,fbQ O ⟨.same rfl,ø⟩,fbQ O (.sm O O),ø⟩,rfl⟩ ?_
  refine Ju [6] [0,0,0,0,0,0,0] [0,0,0,0,0,0,0] [[(1202,.box 94 (Ex m)),(1203,TP 90 Slot.kv Box.av m.on),(1204,TP 91 Ks Box.av m.quay),(1205,TP 92 Ks I64 m.open_),(1072,.box 52 [.ptr 1202 0]),(1075,.box 151 [.fn 123 [.dptr [BL (decide (x.G9=0))]],I64 310,.fn 123 [.dptr [BL ((Gu.has m.on x.Slot)&&(decide (b.ID=x.Box)))]],I64 313,.fn 78 [.ptr 1072 0,Ef x],I64 314,.fn 80 [.ptr 1072 0,Ef x],I64 315])],((1203,TP 90 Slot.kv Box.av (Gu.del m.on x.Slot))::[(1202,.box 94 (Ex m)),(1203,TP 90 Slot.kv Box.av m.on),(1204,TP 91 Ks Box.av m.quay),(1205,TP 92 Ks I64 m.open_),(1072,.box 52 [.ptr 1202 0]),(1075,.box 151 [.fn 123 [.dptr [BL (decide (x.G9=0))]],I64 310,.fn 123 [.dptr [BL ((Gu.has m.on x.Slot)&&(decide (b.ID=x.Box)))]],I64 313,.fn 78 [.ptr 1072 0,Ef x],I64 314,.fn 80 [.ptr 1072 0,Ef x],I64 315])])] Ja (by kernel_rfl) rfl rfl ?_
  refine Gf (u:=.ptr 1202 0) O O ⟨Gi (Hz Jc O O O O) O,ø⟩ (Gf (u:=.ptr 1202 0) O O ⟨Gi (Yj O O) O,ø⟩ (Gf (u:=.ptr 1202 13) O O ⟨Gi (J2 Yg O O) O,ø⟩ (Gf (u:=.mp 1203) O O ⟨Gi (Hz Yk O O O O) O,ø⟩ (Gf (u:=.dptr ((Move.cs x).drop 2)) O O ⟨Gi (Ga Qt O O O) O,ø⟩ (Gf (u:=.agg (Slot.cs x.Slot)) O O ⟨Gi (Gk J0 O O O) O,ø⟩ (H29 (u:=.tup []) O O O O (Gi (J06 (m:=m.on) (a:=x.Slot) (fun _=>O) O O O O R6d G72) O) (Rz (g (Js fun i=>?_)))))))))
  refine Qs (l':=[(2,.ptr 1072 0),(5,Ei b)]) (L':=[(1202,.box 94 (Ex m)),(1203,TP 90 Slot.kv Box.av (Gu.del m.on x.Slot)),(1204,TP 91 Ks Box.av m.quay),(1205,TP 92 Ks I64 m.open_),(1072,.box 52 [.ptr 1202 0]),(1075,.box 151 [.fn 123 [.dptr [BL (decide (x.G9=0))]],I64 310,.fn 123 [.dptr [BL ((Gu.has m.on x.Slot)&&(decide (b.ID=x.Box)))]],I64 313,.fn 78 [.ptr 1072 0,Ef x],I64 314,.fn 80 [.ptr 1072 0,Ef x],I64 315])]) ⟨(.sm O O),⟨fbQ O (.sm O O),fmQ O,fmQ O,fmQ O,fbQ O ⟨.same rfl,ø⟩,fbQ O (.sm O O),ø⟩,rfl⟩ ?_
  refine Ju [7] [0,0,0,0,0,0,0,0] [0,0,0,0,0,0,0,0] [[(1202,.box 94 (Ex m)),(1203,TP 90 Slot.kv Box.av (Gu.del m.on x.Slot)),(1204,TP 91 Ks Box.av m.quay),(1205,TP 92 Ks I64 m.open_),(1072,.box 52 [.ptr 1202 0]),(1075,.box 151 [.fn 123 [.dptr [BL (decide (x.G9=0))]],I64 310,.fn 123 [.dptr [BL ((Gu.has m.on x.Slot)&&(decide (b.ID=x.Box)))]],I64 313,.fn 78 [.ptr 1072 0,Ef x],I64 314,.fn 80 [.ptr 1072 0,Ef x],I64 315])],((1204,TP 91 Ks Box.av (Gu.put m.quay b.ID b))::[(1202,.box 94 (Ex m)),(1203,TP 90 Slot.kv Box.av (Gu.del m.on x.Slot)),(1204,TP 91 Ks Box.av m.quay),(1205,TP 92 Ks I64 m.open_),(1072,.box 52 [.ptr 1202 0]),(1075,.box 151 [.fn 123 [.dptr [BL (decide (x.G9=0))]],I64 310,.fn 123 [.dptr [BL ((Gu.has m.on x.Slot)&&(decide (b.ID=x.Box)))]],I64 313,.fn 78 [.ptr 1072 0,Ef x],I64 314,.fn 80 [.ptr 1072 0,Ef x],I64 315])])] Ja (by kernel_rfl) rfl rfl ?_
  refine Gf (u:=.ptr 1202 0) O O ⟨Gi (Hz Jc O O O O) O,ø⟩ (Gf (u:=.ptr 1202 0) O O ⟨Gi (Yj O O) O,ø⟩ (Gf (u:=.ptr 1202 14) O O ⟨Gi (J2 G3c O O) O,ø⟩ (Gf (u:=.mp 1204) O O ⟨Gi (Hz G2a O O O O) O,ø⟩ (Gf (u:=Ei b) O O ⟨Gi (Ga Qo O O O) O,ø⟩ (Gf (u:=I64 b.ID) O O ⟨Gi (Gg Gb O O O) O,ø⟩ (Gf (u:=.agg (Box.cs b)) O O ⟨Gi (Gk R3 O O O) O,ø⟩ (H29 (u:=.junk) O O O O (Gi (H0b (m:=m.quay) (a:=b.ID) (v:=b) (fun _=>O) O O O O O O J68 H67) O) (Rz (i ?_)))))))))
  refine Jr fun j=>(JLh (.ptr 1202 0) (Hz Jc O O O O) O (JLh (.ptr 1202 0) (Yj O O) O (JLh (.ptr 1202 16) (J2 Gbc O O) O (JLh (I64 m.lifts) (Hz Gb O O O O) O ?_))))
  obtain⟨d,k,h⟩:=J6 h
  refine JLh (I64 d) (Jb k O O O) O (JLh (.ptr 1202 0) (Yj O O) O (JLh (.ptr 1202 16) (J2 Gbc O O) O (Ho (u:=.junk) (H7 (u:=I64 d) (ds:=[E3 m.ship.Columns,E8 m.ship.Covers,I64 m.ship.Light.Kilos,I64 m.ship.Light.X,I64 m.ship.Light.Y,I64 m.ship.Light.Z,E4 m.ship.Rows,E5 m.ship.Frames,E6 m.ship.Tanks,I64 m.ship.G8.Tolerance,I64 m.ship.G8.Trim,I64 m.ship.G8.List_,I64 m.ship.G8.Stability,.mp 1203,.mp 1204,.mp 1205,I64 d]) G70 O O O O O O O O) (G5 (j (Jr fun l=>(JLm (I64 0) O (G5 (l (Gs ?_))))))))))
  obtain rfl:=M7 h
  exact⟨[I64 0],[(1202,.box 94 [E3 m.ship.Columns,E8 m.ship.Covers,I64 m.ship.Light.Kilos,I64 m.ship.Light.X,I64 m.ship.Light.Y,I64 m.ship.Light.Z,E4 m.ship.Rows,E5 m.ship.Frames,E6 m.ship.Tanks,I64 m.ship.G8.Tolerance,I64 m.ship.G8.Trim,I64 m.ship.G8.List_,I64 m.ship.G8.Stability,.mp 1203,.mp 1204,.mp 1205,I64 d]),(1203,TP 90 Slot.kv Box.av (Gu.del m.on x.Slot)),(1204,TP 91 Ks Box.av (Gu.put m.quay b.ID b)),(1205,TP 92 Ks I64 m.open_)],⟨fbQ O (.sm O O),fmQ O,fmQ O,fmQ O,ø⟩,rfl,⟨⟨_,rfl,.conv (.same rfl)⟩,ø⟩,rfl,rfl⟩

def G9b (a:Gc) (b:Move) (c:Box):Option Bool:=
 bnd (G5f a.ship b.Slot c.Size) fun d=>
 some d
theorem Q04 (a:Gc) (b:Move) (c:Box) (r:Bool) (h:G9b a b c=some r):Pure En 82 [.dptr [.dptr (Gc.cs a)],Ef b,Ei c] (·=BL r):=by
 unfold G9b at h
 refine Gx [.tmp 3] Tryz.func82 O O (Jr fun e=>(JLm (BL false) O (G5 (e (Js fun f=>?_)))))
 obtain⟨d,g,h⟩:=Ge h
 refine JC_d0 Ja (by kernel_rfl) (Dq (Eg a) (Gg Jc O O O) O (Dq (Eg a) (G63 O O) O (Dq (Eg a) (Ga Yh O O O) O (Dq (.agg (Gh.cs a.ship)) (Gk Jh O O O) O (Dq (.dptr ((Move.cs b).drop 2)) (Ga Qt O O O) O (Dq (.agg (Slot.cs b.Slot)) (Gk J0 O O O) O (Dq (.dptr ((Box.cs c).drop 2)) (Ga G1e O O O) O (Dq (U8 c.Size) (Gg Ht O O O) O (Dq (BL d) (Gw (args:=[.agg (Gh.cs a.ship),.agg (Slot.cs b.Slot),U8 c.Size]) O (J41 a.ship b.Slot c.Size d g) Q7f ⟨O,O,O,O,O,O,ø⟩) O (Dq (BL d) (G7 O O) O (Dnil (f (Gs (fin1 BL h))))))))))))))

def G9a (a:Gc) (b:Move):Option Bool:=
 bnd (G4f a b.Slot) fun c=>
 some (!c)
theorem Q03 (d:Gc) (a:Move) (r:Bool) (h:G9a d a=some r):Pure En 83 [.dptr [.dptr (Gc.cs d)],Ef a] (·=BL r):=by
 unfold G9a at h
 refine Gx [.tmp 2] Tryz.func83 O O (Jr fun e=>(JLm (BL false) O (G5 (e (Jr fun f=>(JLh (Eg d) (Gg Jc O O O) O (JLh (.dptr ((Move.cs a).drop 2)) (Ga Qt O O O) O (JLh (.agg (Slot.cs a.Slot)) (Gk J0 O O O) O ?_))))))))
 obtain⟨c,g,h⟩:=Ge h
 refine JLh (BL c) (Gw O (Hd9 d a.Slot c g) Q7b ⟨O,O,O,O,ø⟩) O (JLh (BL (!c)) (Yc (b:=c) O O) O (JLm (BL (!c)) O (G5 (f (Gs (fin1 BL h))))))

def G50 (y:Slot) (a:Move):Option Bool:=
 bnd (Gea y a.Slot) fun b=>
 some b
theorem J9d (y:Slot) (a:Move) (r:Bool) (h:G50 y a=some r):Pure En 85 [.agg [I64 y.G3,I64 y.Tier,U8 y.Half],Ef a] (·=BL r):=by
 unfold G50 at h
 refine Gx [.tmp 3] Tryz.func85 O O (Jr fun c=>(JLh (.ptr 1145 0) (Q2 (cs:=[I64 y.G3,I64 y.Tier,U8 y.Half]) 1145 O O O O O) O (JLm (BL false) O (G5 (c (Gp [(1,Ef a),(2,.dptr [I64 y.G3,I64 y.Tier,U8 y.Half])] [] 1145 rfl rfl rfl ø rfl (by exact⟨.conv (.same rfl),.ptr,ø⟩) (Jr fun d=>(JLh (.agg [I64 y.G3,I64 y.Tier,U8 y.Half]) (Gk J0 O O O) O (JLh (.dptr ((Move.cs a).drop 2)) (Ga Qt O O O) O (JLh (.agg (Slot.cs a.Slot)) (Gk J0 O O O) O ?_))))))))))
 obtain⟨b,e,h⟩:=Ge h
 refine JLh (BL b) (Gw O (J7b y a.Slot b e) Q7d ⟨O,O,O,O,ø⟩) O (JLm (BL b) O (G5 (d (Gs (fin1 BL h)))))

def G99 (a:Gc) (b:Move):Option Bool:=
 bnd (Zo a (fun z0=>G50 z0 b)) fun c=>
 some (!c)
theorem Q02 (d:Gc) (a:Move) (r:Bool) (h:G99 d a=some r):Pure En 84 [.dptr [.dptr (Gc.cs d)],Ef a] (·=BL r):=by
 unfold G99 at h
 refine Gx [.tmp 2] Tryz.func84 O O (Jr fun e=>(JLm (BL false) O (G5 (e (Jr fun f=>(JLh (Eg d) (Gg Jc O O O) O (JLh (.fn 85 [.dptr (Move.cs a)]) (Q4 (cs:=[.dptr (Move.cs a)]) O O) O ?_)))))))
 obtain⟨c,g,h⟩:=Ge h
 refine JLh (BL c) (Gw O (H52.down d (fun z0=>G50 z0 a) 85 [.dptr (Move.cs a)] Re8 O (fun z0 q hq=>J9d z0 a q hq) c g) J87 ⟨O,O,O,O,ø⟩) O (JLh (BL (!c)) (Yc (b:=c) O O) O (JLm (BL (!c)) O (G5 (f (Gs (fin1 BL h))))))

def G98 (b:Move) (a:Gc):Option Bool:=
 bnd (G09 a.on) fun e=>
 bnd (Zn (Gu.keys a.on)) fun c=>
 bnd (H50 b.Slot c) fun d=>
 some d
theorem Q01 (b:Move) (a:Gc) (r:Bool) (h:G98 b a=some r):Pure En 86 [.dptr (Move.cs b),.dptr [.dptr (Gc.cs a)]] (·=BL r):=by
 unfold G98 at h
 refine Gx [.tmp 2] Tryz.func86 O O (Jr fun e=>(JLm (BL false) O (G5 (e (Js fun f=>?_)))))
 obtain⟨k,g,h⟩:=Ge h
 obtain⟨c,i,h⟩:=Ge h
 obtain⟨d,j,h⟩:=Ge h
 refine JC_d0 Ja (by kernel_rfl) (Dq (.dptr ((Move.cs b).drop 2)) (Ga Qt O O O) O (Dq (.agg (Slot.cs b.Slot)) (Gk J0 O O O) O (Dq (Eg a) (Gg Jc O O O) O (Dq (Eg a) (G63 O O) O (Dq (.dptr ((Gc.cs a).drop 13)) (Ga Yg O O O) O (Dq (DM Slot.kv Box.av a.on) (Gg Yk O O O) O (Dq (.fn 125 [.dptr [DM Slot.kv Box.av a.on]]) (Gw (args:=[DM Slot.kv Box.av a.on]) O (H27 a.on k g) Re5 ⟨O,O,ø⟩) O (Dq (BG 3 Slot.av c) (Gw (args:=[.fn 125 [.dptr [DM Slot.kv Box.av a.on]]]) O (H86.down (Gu.keys a.on) 125 [.dptr [DM Slot.kv Box.av a.on]] R85 O (H07 a.on) c i) Re6 ⟨O,O,ø⟩) O (Dq (BL d) (Gw (args:=[.agg (Slot.cs b.Slot),BG 3 Slot.av c]) O (Jca.down b.Slot c d j) Q7e ⟨O,O,O,O,ø⟩) O (Dq (BL d) (G7 O O) O (Dnil ?_)))))))))))
 refine f (Gs (fin1 BL h))

def G97 (b:Gc) (c:Move) (d:Box):Option Bool:=
 Qy b.ship.Columns c.Slot.G3 fun a=>
 bnd (bif (!(decide (a.Height≤0))) then G21 b c.Slot d 1 else some default) fun e=>
 bnd (bif (!(decide (a.Height≤0))) then G21 b c.Slot d 2 else some default) fun f=>
 some ((decide (a.Height≤0))||(decide ((max e f)≤a.Height)))
theorem Q00 (a:Gc) (c:Move) (d:Box) (r:Bool) (h:G97 a c d=some r):Pure En 89 [.dptr [.dptr (Gc.cs a)],Ef c,Ei d] (·=BL r):=by
 unfold G97 at h
 refine Gx [.tmp 3] Tryz.func89 O O (Jr fun i=>(JLm (BL false) O (G5 (i (Js fun j=>?_)))))
 obtain⟨p,b,k,l,h⟩:=Zs h
 refine JC_d0 Ja (by kernel_rfl) (Dq (Eg a) (Gg Jc O O O) O (Dq (Eg a) (G63 O O) O (Dq (Eg a) (Ga Yh O O O) O (Dq (Eg a) (Ga J5 O O O) O (Dq (E3 a.ship.Columns) (Gg Jn O O O) O (Dq (.dptr ((Move.cs c).drop 2)) (Ga Qt O O O) O (Dq (.dptr ((Move.cs c).drop 2)) (Ga J4 O O O) O (Dq (I64 c.Slot.G3) (Gg Gb O O O) O (Dq (Ej b) (Hg (f:=G3.av) (xs:=a.ship.Columns) (y:=b) O O O Hx l k) O (Dq (.dptr ((G3.cs b).drop 4)) (Ga Hb8 O O O) O (Dq (I64 b.Height) (Gg Gb O O O) O (Dq (I64 b.Height) (G7 O O) O (Dnil (j (Js fun m=>?_)))))))))))))))
 obtain⟨e,n,h⟩:=Ge h
 obtain⟨g,o,h⟩:=Ge h
 refine JC_d0 Ja (by kernel_rfl) (Dq (I64 b.Height) (G6 O O) O (Dq (BL (decide (b.Height≤0))) (Hb5 O O O) O (Dq (BL (decide (b.Height≤0))) (G6 O O) O (Do (Eg a) [] O .scf ø (fun hc=>Gg Jc O O O) O (Do (.dptr ((Move.cs c).drop 2)) [] O .scf ø (fun hc=>Ga Qt O O O) O (Do (.agg (Slot.cs c.Slot)) [20] O .scf ⟨Ua,ø⟩ (fun hc=>Gk J0 O O O) O (Do (.agg (Box.cs d)) [] O .scf ø (fun hc=>Gk R3 O O O) O (Do (I64 e) [19,21,22] O .scf ⟨Ua,Ua,Ua,ø⟩ (fun hc=>Gw (args:=[.dptr (Gc.cs a),.agg (Slot.cs c.Slot),.agg (Box.cs d),U8 1]) O (Hd7.down a c.Slot d 1 e (H5 hc n)) Q7a ⟨O,O,O,O,O,O,O,O,ø⟩) O (Do (Eg a) [] O .scf ø (fun hc=>Gg Jc O O O) O (Do (.dptr ((Move.cs c).drop 2)) [] O .scf ø (fun hc=>Ga Qt O O O) O (Do (.agg (Slot.cs c.Slot)) [25] O .scf ⟨Ua,ø⟩ (fun hc=>Gk J0 O O O) O (Do (.agg (Box.cs d)) [] O .scf ø (fun hc=>Gk R3 O O O) O (Do (I64 g) [24,26,27] O .scf ⟨Ua,Ua,Ua,ø⟩ (fun hc=>Gw (args:=[.dptr (Gc.cs a),.agg (Slot.cs c.Slot),.agg (Box.cs d),U8 2]) O (Hd7.down a c.Slot d 2 g (H5 hc o)) Q7a ⟨O,O,O,O,O,O,O,O,ø⟩) O ?_)))))))))))))
 refine Do (I64 (max e g)) [23,28] O .scf ⟨Ua,Ua,ø⟩ (fun hc=>Z61 O O O) O (Do (I64 b.Height) [] O .scf ø (fun hc=>G6 O O) O (Do (BL (decide ((max e g)≤b.Height))) [29,30] O .scf ⟨Ua,Ua,ø⟩ (fun hc=>Hb5 O O O) O (Dq (BL ((decide (b.Height≤0))||(decide ((max e g)≤b.Height)))) (G7e O O O O) O (Dq (BL ((decide (b.Height≤0))||(decide ((max e g)≤b.Height)))) (G7 O O) O (Dnil (m (Gs (fin1 BL h))))))))

def H03 (m:Gc) (x:Move):Option (Int×Gc):=
 bnd (some (Gu.get m.quay x.Box (Box.mk 0 ByteArray.empty 0 false 0 0 0 0 false))) fun a=>
 bnd (H47 (decide (x.G9=0)) 310) fun d=>
 bnd (H47 (Gu.has m.quay x.Box) 313) fun e=>
 bnd (H33 [(Yp (decide (x.G9=0)),310),
  (Yp (Gu.has m.quay x.Box),313),
  (G9b m (Move.mk x.Kind x.Box x.Slot x.G9) a,316),
  (G9a m (Move.mk x.Kind x.Box x.Slot x.G9),315),
  (G99 m (Move.mk x.Kind x.Box x.Slot x.G9),317),
  (G98 (Move.mk x.Kind x.Box x.Slot x.G9) m,318),
  (G97 m (Move.mk x.Kind x.Box x.Slot x.G9) a,319)]) fun b=>
 bif decide (b≠0) then
 (some (b,m))
 else
 (chk (m.lifts+1) fun c=>
  some (0,(Gc.mk m.ship (Gu.put m.on x.Slot a) (Gu.del m.quay x.Box) m.open_ c)))
abbrev Ey (m:Gc):List AV:=[E3 m.ship.Columns,E8 m.ship.Covers,I64 m.ship.Light.Kilos,I64 m.ship.Light.X,I64 m.ship.Light.Y,I64 m.ship.Light.Z,E4 m.ship.Rows,E5 m.ship.Frames,E6 m.ship.Tanks,I64 m.ship.G8.Tolerance,I64 m.ship.G8.Trim,I64 m.ship.G8.List_,I64 m.ship.G8.Stability,.mp 1203,.mp 1204,.mp 1205,I64 m.lifts]
theorem Qda (m:Gc) (x:Move) (r:Int×Gc) (h:H03 m x=some r):J3 En 43 [.ptr 1202 0,.agg (Move.cs x)] [(1202,.box 94 [E3 m.ship.Columns,E8 m.ship.Covers,I64 m.ship.Light.Kilos,I64 m.ship.Light.X,I64 m.ship.Light.Y,I64 m.ship.Light.Z,E4 m.ship.Rows,E5 m.ship.Frames,E6 m.ship.Tanks,I64 m.ship.G8.Tolerance,I64 m.ship.G8.Trim,I64 m.ship.G8.List_,I64 m.ship.G8.Stability,.mp 1203,.mp 1204,.mp 1205,I64 m.lifts]),(1203,TP 90 Slot.kv Box.av m.on),(1204,TP 91 Ks Box.av m.quay),(1205,TP 92 Ks I64 m.open_)] (fun av L'=>av=I64 r.1∧L'=[(1202,.box 94 [E3 r.2.ship.Columns,E8 r.2.ship.Covers,I64 r.2.ship.Light.Kilos,I64 r.2.ship.Light.X,I64 r.2.ship.Light.Y,I64 r.2.ship.Light.Z,E4 r.2.ship.Rows,E5 r.2.ship.Frames,E6 r.2.ship.Tanks,I64 r.2.ship.G8.Tolerance,I64 r.2.ship.G8.Trim,I64 r.2.ship.G8.List_,I64 r.2.ship.G8.Stability,.mp 1203,.mp 1204,.mp 1205,I64 r.2.lifts]),(1203,TP 90 Slot.kv Box.av r.2.on),(1204,TP 91 Ks Box.av r.2.quay),(1205,TP 92 Ks I64 r.2.open_)]):=by
 unfold H03 at h
 refine Jj [1202,1203,1204,1205] [.tmp 4] Tryz.func43 O O (G0d O) (Jr fun n=>(JLh (.ptr 1076 0) (Q2 (cs:=[.ptr 1202 0]) 1076 O O O O O) O (JLh (.ptr 1077 0) (Q2 (cs:=[U8 x.Kind,I64 x.Box,I64 x.Slot.G3,I64 x.Slot.Tier,U8 x.Slot.Half,I64 x.G9]) 1077 O O O O O) O (JLm (I64 0) O (G5 (n ?_))))))
 refine Gp [(2,.ptr 1076 0),(3,Ef x)] [(1202,.box 94 (Ey m)),(1203,TP 90 Slot.kv Box.av m.on),(1204,TP 91 Ks Box.av m.quay),(1205,TP 92 Ks I64 m.open_),(1076,.box 52 [.ptr 1202 0])] 1077 rfl rfl rfl ⟨⟨_,rfl,.boxEq rfl rfl⟩,fmQ O,fmQ O,fmQ O,⟨_,rfl,.boxEq rfl rfl⟩,ø⟩ rfl (by exact⟨.conv (.same rfl),.ptr,ø⟩) ?_
 refine Js fun o=>?_
 refine Qs (l':=[(2,.ptr 1076 0),(3,Ef x)]) (L':=[(1202,.box 94 (Ey m)),(1203,TP 90 Slot.kv Box.av m.on),(1204,TP 91 Ks Box.av m.quay),(1205,TP 92 Ks I64 m.open_),(1076,.box 52 [.ptr 1202 0])]) ⟨(.sm O O),⟨fbQ O (.sm O O),fmQ O,fmQ O,fmQ O,fbQ O ⟨.same rfl,ø⟩,ø⟩,rfl⟩ ?_
 obtain⟨b,e,h⟩:=Ge h
 refine Ju [10,11] [0,0,0,0,0,0,0,0,0,0,0,0,2] [1,1,1,1,1,1,1,1,1,2,0,0,2] [[(1202,.box 94 (Ey m)),(1203,TP 90 Slot.kv Box.av m.on),(1204,TP 91 Ks Box.av m.quay),(1205,TP 92 Ks I64 m.open_),(1076,.box 52 [.ptr 1202 0])],((1078,.box 103 [.junk,.junk,.junk,.junk,.junk,.junk,.junk,.junk,.junk])::[(1202,.box 94 (Ey m)),(1203,TP 90 Slot.kv Box.av m.on),(1204,TP 91 Ks Box.av m.quay),(1205,TP 92 Ks I64 m.open_),(1076,.box 52 [.ptr 1202 0])]),((1078,.box 103 (Box.cs b))::((1078,.box 103 [.junk,.junk,.junk,.junk,.junk,.junk,.junk,.junk,.junk])::[(1202,.box 94 (Ey m)),(1203,TP 90 Slot.kv Box.av m.on),(1204,TP 91 Ks Box.av m.quay),(1205,TP 92 Ks I64 m.open_),(1076,.box 52 [.ptr 1202 0])]))] Ja (by kernel_rfl) rfl rfl ?_
 refine Gf (u:=.ptr 1202 0) O O ⟨Gi (Hz Jc O O O O) O,Gi (Hz Jc O O O O) O,ø⟩ (Gf (u:=.ptr 1202 0) O O ⟨Gi (Yj O O) O,Gi (Yj O O) O,ø⟩ (Gf (u:=.ptr 1202 14) O O ⟨Gi (J2 G3c O O) O,Gi (J2 G3c O O) O,ø⟩ (Gf (u:=.mp 1204) O O ⟨Gi (Hz G2a O O O O) O,Gi (Hz G2a O O O O) O,ø⟩ (Gf (u:=.dptr ((Move.cs x).drop 1)) O O ⟨Gi (Ga Gbd O O O) O,Gi (Ga Gbd O O O) O,ø⟩ (Gf (u:=I64 x.Box) O O ⟨Gi (Gg Gb O O O) O,Gi (Gg Gb O O O) O,ø⟩ (Gf (u:=.tup [.agg (Box.cs b),BL (Gu.has m.quay x.Box)]) O O ⟨Gi (((M7 e) ▸ J07 (av:=Box.av) (m:=m.quay) (a:=x.Box) (Box.mk 0 ByteArray.empty 0 false 0 0 0 0 false) (.agg #[E0,.string ByteArray.empty,.int .u8 0,.bool false,E0,E0,E0,.int .u8 0,.bool false]) (fun _=>O) O (.own O) O J68 H67 J4b O)) O,Gi (((M7 e) ▸ J07 (av:=Box.av) (m:=m.quay) (a:=x.Box) (Box.mk 0 ByteArray.empty 0 false 0 0 0 0 false) (.agg #[E0,.string ByteArray.empty,.int .u8 0,.bool false,E0,E0,E0,.int .u8 0,.bool false]) (fun _=>O) O (.own O) O J68 H67 J4b O)) O,ø⟩ (Gf (u:=.tup [.agg (Box.cs b),BL (Gu.has m.quay x.Box)]) O O ⟨Gi (G6 O O) O,Gi (G6 O O) O,ø⟩ (Gf (u:=.agg (Box.cs b)) O O ⟨Gi (H3 O O O) O,Gi (H3 O O O) O,ø⟩ (Gf (u:=BL (Gu.has m.quay x.Box)) O O ⟨Gi (H3 O O O) O,Gi (H3 O O O) O,Gi (H3 O O O) O,ø⟩ (D_w (u:=.ptr 1078 0) O O O O (Gi (Hm 1078 9 Qw O O) O) (H29 (u:=.junk) O O O O (Gi (H7 (u:=.agg (Box.cs b)) (ds:=(Box.cs b)) Rf O O O O O O O O) O) (Gf (u:=BL (Gu.has m.quay x.Box)) O O ⟨Gi (G7 O O) O,ø⟩ (Rz ?_)))))))))))))
 refine o ?_
 refine fzQ [(2,.ptr 1076 0),(3,Ef x),(5,Ei b),(6,BL (Gu.has m.quay x.Box))] [(1202,.box 94 (Ey m)),(1203,TP 90 Slot.kv Box.av m.on),(1204,TP 91 Ks Box.av m.quay),(1205,TP 92 Ks I64 m.open_),(1076,.box 52 [.ptr 1202 0])] 1078 rfl rfl rfl ⟨⟨_,rfl,.boxEq rfl rfl⟩,fmQ O,fmQ O,fmQ O,⟨_,rfl,.boxEq rfl rfl⟩,ø⟩ rfl ?_
 refine Jr fun p=>(JLh (.dptr [I64 x.G9]) (Ga G17 O O O) O (JLh (I64 x.G9) (Gg Gb O O O) O (JLh (BL (decide (x.G9=0))) (Qm O O O) O ?_)))
 obtain⟨r5,s,h⟩:=Ge h
 refine JLh (.agg [.fn 123 [.dptr [BL (decide (x.G9=0))]],I64 310]) (Gw O (H26 (decide (x.G9=0)) 310 r5 s) H17 ⟨O,O,O,O,ø⟩) O (JLm (BL (Gu.has m.quay x.Box)) O ?_)
 obtain⟨r6,t,h⟩:=Ge h
 refine JLh (.agg [.fn 123 [.dptr [BL (Gu.has m.quay x.Box)]],I64 313]) (Gw O (H26 (Gu.has m.quay x.Box) 313 r6 t) H17 ⟨O,O,O,O,ø⟩) O (JLh (.fn 82 [.ptr 1076 0,Ef x,Ei b]) (Q4 (cs:=[.ptr 1076 0,Ef x,Ei b]) O O) O (JLh (.agg [.fn 82 [.ptr 1076 0,Ef x,Ei b],I64 316]) (He (cs:=[.fn 82 [.ptr 1076 0,Ef x,Ei b],I64 316]) [(0,1),(1,1)] [.sc .nilFunc,I64 0] [.nilFunc,E0] Zk G14 (zzQ O) O O) O (JLh (.fn 83 [.ptr 1076 0,Ef x]) (Q4 (cs:=[.ptr 1076 0,Ef x]) O O) O (JLh (.agg [.fn 83 [.ptr 1076 0,Ef x],I64 315]) (He (cs:=[.fn 83 [.ptr 1076 0,Ef x],I64 315]) [(0,1),(1,1)] [.sc .nilFunc,I64 0] [.nilFunc,E0] Zk G14 (zzQ O) O O) O (JLh (.fn 84 [.ptr 1076 0,Ef x]) (Q4 (cs:=[.ptr 1076 0,Ef x]) O O) O (JLh (.agg [.fn 84 [.ptr 1076 0,Ef x],I64 317]) (He (cs:=[.fn 84 [.ptr 1076 0,Ef x],I64 317]) [(0,1),(1,1)] [.sc .nilFunc,I64 0] [.nilFunc,E0] Zk G14 (zzQ O) O O) O (JLh (.fn 86 [.dptr (Move.cs x),.ptr 1076 0]) (Q4 (cs:=[.dptr (Move.cs x),.ptr 1076 0]) O O) O (JLh (.agg [.fn 86 [.dptr (Move.cs x),.ptr 1076 0],I64 318]) (He (cs:=[.fn 86 [.dptr (Move.cs x),.ptr 1076 0],I64 318]) [(0,1),(1,1)] [.sc .nilFunc,I64 0] [.nilFunc,E0] Zk G14 (zzQ O) O O) O (JLh (.fn 89 [.ptr 1076 0,Ef x,Ei b]) (Q4 (cs:=[.ptr 1076 0,Ef x,Ei b]) O O) O (JLh (.agg [.fn 89 [.ptr 1076 0,Ef x,Ei b],I64 319]) (He (cs:=[.fn 89 [.ptr 1076 0,Ef x,Ei b],I64 319]) [(0,1),(1,1)] [.sc .nilFunc,I64 0] [.nilFunc,E0] Zk G14 (zzQ O) O O) O (JLh (.ms 1079 0 7 7) (Q09 1079 (xs:=[.agg [.fn 123 [.dptr [BL (decide (x.G9=0))]],I64 310],.agg [.fn 123 [.dptr [BL (Gu.has m.quay x.Box)]],I64 313],.agg [.fn 82 [.ptr 1076 0,Ef x,Ei b],I64 316],.agg [.fn 83 [.ptr 1076 0,Ef x],I64 315],.agg [.fn 84 [.ptr 1076 0,Ef x],I64 317],.agg [.fn 86 [.dptr (Move.cs x),.ptr 1076 0],I64 318],.agg [.fn 89 [.ptr 1076 0,Ef x,Ei b],I64 319]]) (cs:=[.fn 123 [.dptr [BL (decide (x.G9=0))]],I64 310,.fn 123 [.dptr [BL (Gu.has m.quay x.Box)]],I64 313,.fn 82 [.ptr 1076 0,Ef x,Ei b],I64 316,.fn 83 [.ptr 1076 0,Ef x],I64 315,.fn 84 [.ptr 1076 0,Ef x],I64 317,.fn 86 [.dptr (Move.cs x),.ptr 1076 0],I64 318,.fn 89 [.ptr 1076 0,Ef x,Ei b],I64 319]) O ⟨O,O,O,O,O,O,O,ø⟩ O Gf0 H5c O O O O O) O ?_)))))))))))
 obtain⟨c,w,h⟩:=Ge h
 refine JLg (I64 c) (Ga0 O (Qc1.down [J1.mk 123 [.dptr [BL (decide (x.G9=0))]] (Yp (decide (x.G9=0))) 310 Ge1 O (fun q hq=>Gac (decide (x.G9=0)) q hq),
 J1.mk 123 [.dptr [BL (Gu.has m.quay x.Box)]] (Yp (Gu.has m.quay x.Box)) 313 Ge1 rfl (fun q hq=>Gac (Gu.has m.quay x.Box) q hq),
 J1.mk 82 [.dptr [.dptr (Gc.cs m)],Ef x,Ei b] (G9b m (Move.mk x.Kind x.Box x.Slot x.G9) b) 316 Reb rfl (fun q hq=>Q04 m (Move.mk x.Kind x.Box x.Slot x.G9) b q hq),
 J1.mk 83 [.dptr [.dptr (Gc.cs m)],Ef x] (G9a m (Move.mk x.Kind x.Box x.Slot x.G9)) 315 Rea rfl (fun q hq=>Q03 m (Move.mk x.Kind x.Box x.Slot x.G9) q hq),
 J1.mk 84 [.dptr [.dptr (Gc.cs m)],Ef x] (G99 m (Move.mk x.Kind x.Box x.Slot x.G9)) 317 Re9 rfl (fun q hq=>Q02 m (Move.mk x.Kind x.Box x.Slot x.G9) q hq),
 J1.mk 86 [.dptr (Move.cs x),.dptr [.dptr (Gc.cs m)]] (G98 (Move.mk x.Kind x.Box x.Slot x.G9) m) 318 Re7 rfl (fun q hq=>Q01 (Move.mk x.Kind x.Box x.Slot x.G9) m q hq),
 J1.mk 89 [.dptr [.dptr (Gc.cs m)],Ef x,Ei b] (G97 m (Move.mk x.Kind x.Box x.Slot x.G9) b) 319 Re4 rfl (fun q hq=>Q00 m (Move.mk x.Kind x.Box x.Slot x.G9) b q hq)] c w) J86 ⟨.msL rfl rfl rfl ⟨.data O O,.data O O,.data O O,.data O O,.fnL ⟨.ptrL rfl ⟨.ptrL rfl (dnQ 13 O O ⟨.mp rfl,.mp rfl,.mp rfl,.data O O,trivial⟩),trivial⟩,.data O O,.data O O,trivial⟩,.data O O,.fnL ⟨.ptrL rfl ⟨.ptrL rfl (dnQ 13 O O ⟨.mp rfl,.mp rfl,.mp rfl,.data O O,trivial⟩),trivial⟩,.data O O,trivial⟩,.data O O,.fnL ⟨.ptrL rfl ⟨.ptrL rfl (dnQ 13 O O ⟨.mp rfl,.mp rfl,.mp rfl,.data O O,trivial⟩),trivial⟩,.data O O,trivial⟩,.data O O,.fnL ⟨.data O O,.ptrL rfl ⟨.ptrL rfl (dnQ 13 O O ⟨.mp rfl,.mp rfl,.mp rfl,.data O O,trivial⟩),trivial⟩,trivial⟩,.data O O,.fnL ⟨.ptrL rfl ⟨.ptrL rfl (dnQ 13 O O ⟨.mp rfl,.mp rfl,.mp rfl,.data O O,trivial⟩),trivial⟩,.data O O,.data O O,trivial⟩,.data O O,trivial⟩,trivial⟩ rfl) ?_ rfl rfl rfl
 refine JLm (I64 c) O (G5 (p (Js fun y=>Jr fun z=>(JLm (I64 c) O (JLh (BL (decide (c≠0))) (H0a O O O) O (G5 (z (JCc O h (fun h hb=>?_) (fun h hb=>?_)))))))))
 ·
  refine Jr fun f=>(JLm (I64 c) O (JLm (I64 c) O (G5 (f (Gs ?_)))))
  obtain rfl:=M7 h
  exact⟨[I64 c],[(1202,.box 94 (Ey m)),(1203,TP 90 Slot.kv Box.av m.on),(1204,TP 91 Ks Box.av m.quay),(1205,TP 92 Ks I64 m.open_)],⟨fbQ O (.sm O O),fmQ O,fmQ O,fmQ O,ø⟩,rfl,⟨⟨_,rfl,.conv (.same rfl)⟩,ø⟩,rfl,rfl⟩
 ·
  refine Gn (y (Js fun g=>?_))
  refine Qs (l':=[(2,.ptr 1076 0),(3,Ef x),(5,Ei b)]) (L':=[(1202,.box 94 (Ey m)),(1203,TP 90 Slot.kv Box.av m.on),(1204,TP 91 Ks Box.av m.quay),(1205,TP 92 Ks I64 m.open_),(1076,.box 52 [.ptr 1202 0]),(1079,.box 151 [.fn 123 [.dptr [BL (decide (x.G9=0))]],I64 310,.fn 123 [.dptr [BL (Gu.has m.quay x.Box)]],I64 313,.fn 82 [.ptr 1076 0,Ef x,Ei b],I64 316,.fn 83 [.ptr 1076 0,Ef x],I64 315,.fn 84 [.ptr 1076 0,Ef x],I64 317,.fn 86 [.dptr (Move.cs x),.ptr 1076 0],I64 318,.fn 89 [.ptr 1076 0,Ef x,Ei b],I64 319])]) ⟨(.sm O O),⟨fbQ O (.sm O O),fmQ O,fmQ O,fmQ O,fbQ O ⟨.same rfl,ø⟩,fbQ O (.sm O O),ø⟩,rfl⟩ ?_
  refine Ju [6] [0,0,0,0,0,0,0] [0,0,0,0,0,0,0] [[(1202,.box 94 (Ey m)),(1203,TP 90 Slot.kv Box.av m.on),(1204,TP 91 Ks Box.av m.quay),(1205,TP 92 Ks I64 m.open_),(1076,.box 52 [.ptr 1202 0]),(1079,.box 151 [.fn 123 [.dptr [BL (decide (x.G9=0))]],I64 310,.fn 123 [.dptr [BL (Gu.has m.quay x.Box)]],I64 313,.fn 82 [.ptr 1076 0,Ef x,Ei b],I64 316,.fn 83 [.ptr 1076 0,Ef x],I64 315,.fn 84 [.ptr 1076 0,Ef x],I64 317,.fn 86 [.dptr (Move.cs x),.ptr 1076 0],I64 318,.fn 89 [.ptr 1076 0,Ef x,Ei b],I64 319])],((1204,TP 91 Ks Box.av (Gu.del m.quay x.Box))::[(1202,.box 94 (Ey m)),(1203,TP 90 Slot.kv Box.av m.on),(1204,TP 91 Ks Box.av m.quay),(1205,TP 92 Ks I64 m.open_),(1076,.box 52 [.ptr 1202 0]),(1079,.box 151 [.fn 123 [.dptr [BL (decide (x.G9=0))]],I64 310,.fn 123 [.dptr [BL (Gu.has m.quay x.Box)]],I64 313,.fn 82 [.ptr 1076 0,Ef x,Ei b],I64 316,.fn 83 [.ptr 1076 0,Ef x],I64 315,.fn 84 [.ptr 1076 0,Ef x],I64 317,.fn 86 [.dptr (Move.cs x),.ptr 1076 0],I64 318,.fn 89 [.ptr 1076 0,Ef x,Ei b],I64 319])])] Ja (by kernel_rfl) rfl rfl ?_
  refine Gf (u:=.ptr 1202 0) O O ⟨Gi (Hz Jc O O O O) O,ø⟩ (Gf (u:=.ptr 1202 0) O O ⟨Gi (Yj O O) O,ø⟩ (Gf (u:=.ptr 1202 14) O O ⟨Gi (J2 G3c O O) O,ø⟩ (Gf (u:=.mp 1204) O O ⟨Gi (Hz G2a O O O O) O,ø⟩ (Gf (u:=.dptr ((Move.cs x).drop 1)) O O ⟨Gi (Ga Gbd O O O) O,ø⟩ (Gf (u:=I64 x.Box) O O ⟨Gi (Gg Gb O O O) O,ø⟩ (H29 (u:=.tup []) O O O O (Gi (J06 (m:=m.quay) (a:=x.Box) (fun _=>O) O O O O J68 H67) O) (Rz (g (Js fun i=>?_)))))))))
  refine Qs (l':=[(2,.ptr 1076 0),(3,Ef x),(5,Ei b)]) (L':=[(1202,.box 94 (Ey m)),(1203,TP 90 Slot.kv Box.av m.on),(1204,TP 91 Ks Box.av (Gu.del m.quay x.Box)),(1205,TP 92 Ks I64 m.open_),(1076,.box 52 [.ptr 1202 0]),(1079,.box 151 [.fn 123 [.dptr [BL (decide (x.G9=0))]],I64 310,.fn 123 [.dptr [BL (Gu.has m.quay x.Box)]],I64 313,.fn 82 [.ptr 1076 0,Ef x,Ei b],I64 316,.fn 83 [.ptr 1076 0,Ef x],I64 315,.fn 84 [.ptr 1076 0,Ef x],I64 317,.fn 86 [.dptr (Move.cs x),.ptr 1076 0],I64 318,.fn 89 [.ptr 1076 0,Ef x,Ei b],I64 319])]) ⟨(.sm O O),⟨fbQ O (.sm O O),fmQ O,fmQ O,fmQ O,fbQ O ⟨.same rfl,ø⟩,fbQ O (.sm O O),ø⟩,rfl⟩ ?_
  refine Ju [7] [0,0,0,0,0,0,0,0] [0,0,0,0,0,0,0,0] [[(1202,.box 94 (Ey m)),(1203,TP 90 Slot.kv Box.av m.on),(1204,TP 91 Ks Box.av (Gu.del m.quay x.Box)),(1205,TP 92 Ks I64 m.open_),(1076,.box 52 [.ptr 1202 0]),(1079,.box 151 [.fn 123 [.dptr [BL (decide (x.G9=0))]],I64 310,.fn 123 [.dptr [BL (Gu.has m.quay x.Box)]],I64 313,.fn 82 [.ptr 1076 0,Ef x,Ei b],I64 316,.fn 83 [.ptr 1076 0,Ef x],I64 315,.fn 84 [.ptr 1076 0,Ef x],I64 317,.fn 86 [.dptr (Move.cs x),.ptr 1076 0],I64 318,.fn 89 [.ptr 1076 0,Ef x,Ei b],I64 319])],((1203,TP 90 Slot.kv Box.av (Gu.put m.on x.Slot b))::[(1202,.box 94 (Ey m)),(1203,TP 90 Slot.kv Box.av m.on),(1204,TP 91 Ks Box.av (Gu.del m.quay x.Box)),(1205,TP 92 Ks I64 m.open_),(1076,.box 52 [.ptr 1202 0]),(1079,.box 151 [.fn 123 [.dptr [BL (decide (x.G9=0))]],I64 310,.fn 123 [.dptr [BL (Gu.has m.quay x.Box)]],I64 313,.fn 82 [.ptr 1076 0,Ef x,Ei b],I64 316,.fn 83 [.ptr 1076 0,Ef x],I64 315,.fn 84 [.ptr 1076 0,Ef x],I64 317,.fn 86 [.dptr (Move.cs x),.ptr 1076 0],I64 318,.fn 89 [.ptr 1076 0,Ef x,Ei b],I64 319])])] Ja (by kernel_rfl) rfl rfl ?_
  refine Gf (u:=.ptr 1202 0) O O ⟨Gi (Hz Jc O O O O) O,ø⟩ (Gf (u:=.ptr 1202 0) O O ⟨Gi (Yj O O) O,ø⟩ (Gf (u:=.ptr 1202 13) O O ⟨Gi (J2 Yg O O) O,ø⟩ (Gf (u:=.mp 1203) O O ⟨Gi (Hz Yk O O O O) O,ø⟩ (Gf (u:=.dptr ((Move.cs x).drop 2)) O O ⟨Gi (Ga Qt O O O) O,ø⟩ (Gf (u:=.agg (Slot.cs x.Slot)) O O ⟨Gi (Gk J0 O O O) O,ø⟩ (Gf (u:=.agg (Box.cs b)) O O ⟨Gi (Gk R3 O O O) O,ø⟩ (H29 (u:=.junk) O O O O (Gi (H0b (m:=m.on) (a:=x.Slot) (v:=b) (fun _=>O) O O O O O O R6d G72) O) (Rz (i ?_)))))))))
  refine Jr fun j=>(JLh (.ptr 1202 0) (Hz Jc O O O O) O (JLh (.ptr 1202 0) (Yj O O) O (JLh (.ptr 1202 16) (J2 Gbc O O) O (JLh (I64 m.lifts) (Hz Gb O O O O) O ?_))))
  obtain⟨d,k,h⟩:=J6 h
  refine JLh (I64 d) (Jb k O O O) O (JLh (.ptr 1202 0) (Yj O O) O (JLh (.ptr 1202 16) (J2 Gbc O O) O (Ho (u:=.junk) (H7 (u:=I64 d) (ds:=[E3 m.ship.Columns,E8 m.ship.Covers,I64 m.ship.Light.Kilos,I64 m.ship.Light.X,I64 m.ship.Light.Y,I64 m.ship.Light.Z,E4 m.ship.Rows,E5 m.ship.Frames,E6 m.ship.Tanks,I64 m.ship.G8.Tolerance,I64 m.ship.G8.Trim,I64 m.ship.G8.List_,I64 m.ship.G8.Stability,.mp 1203,.mp 1204,.mp 1205,I64 d]) G70 O O O O O O O O) (G5 (j (Jr fun l=>(JLm (I64 0) O (G5 (l (Gs ?_))))))))))
  obtain rfl:=M7 h
  exact⟨[I64 0],[(1202,.box 94 [E3 m.ship.Columns,E8 m.ship.Covers,I64 m.ship.Light.Kilos,I64 m.ship.Light.X,I64 m.ship.Light.Y,I64 m.ship.Light.Z,E4 m.ship.Rows,E5 m.ship.Frames,E6 m.ship.Tanks,I64 m.ship.G8.Tolerance,I64 m.ship.G8.Trim,I64 m.ship.G8.List_,I64 m.ship.G8.Stability,.mp 1203,.mp 1204,.mp 1205,I64 d]),(1203,TP 90 Slot.kv Box.av (Gu.put m.on x.Slot b)),(1204,TP 91 Ks Box.av (Gu.del m.quay x.Box)),(1205,TP 92 Ks I64 m.open_)],⟨fbQ O (.sm O O),fmQ O,fmQ O,fmQ O,ø⟩,rfl,⟨⟨_,rfl,.conv (.same rfl)⟩,ø⟩,rfl,rfl⟩

def G60 (m:Gc) (x:Move):Option (Int×Gc):=
 jp (fun a=>
  bif decide (x.Kind=1) then
  (a (decide (x.Kind=1)))
  else
  (a (decide (x.Kind=4)))) fun(e:Bool)=>
 bif e then
 (bnd (G07 m (Move.mk x.Kind x.Box x.Slot x.G9)) fun b=>
  some (b.1,b.2))
 else
 (bif decide (x.Kind=2) then
  (bnd (Gc7 m (Move.mk x.Kind x.Box x.Slot x.G9)) fun c=>
   some (c.1,c.2))
  else
  (bif decide (x.Kind=3) then
   (bnd (H03 m (Move.mk x.Kind x.Box x.Slot x.G9)) fun d=>
    some (d.1,d.2))
   else
   (some (310,m))))
abbrev Ez (m:Gc):List AV:=[E3 m.ship.Columns,E8 m.ship.Covers,I64 m.ship.Light.Kilos,I64 m.ship.Light.X,I64 m.ship.Light.Y,I64 m.ship.Light.Z,E4 m.ship.Rows,E5 m.ship.Frames,E6 m.ship.Tanks,I64 m.ship.G8.Tolerance,I64 m.ship.G8.Trim,I64 m.ship.G8.List_,I64 m.ship.G8.Stability,.mp 1203,.mp 1204,.mp 1205,I64 m.lifts]
theorem J44 (m:Gc) (x:Move) (r:Int×Gc) (h:G60 m x=some r):J3 En 13 [.ptr 1202 0,.agg (Move.cs x)] [(1202,.box 94 [E3 m.ship.Columns,E8 m.ship.Covers,I64 m.ship.Light.Kilos,I64 m.ship.Light.X,I64 m.ship.Light.Y,I64 m.ship.Light.Z,E4 m.ship.Rows,E5 m.ship.Frames,E6 m.ship.Tanks,I64 m.ship.G8.Tolerance,I64 m.ship.G8.Trim,I64 m.ship.G8.List_,I64 m.ship.G8.Stability,.mp 1203,.mp 1204,.mp 1205,I64 m.lifts]),(1203,TP 90 Slot.kv Box.av m.on),(1204,TP 91 Ks Box.av m.quay),(1205,TP 92 Ks I64 m.open_)] (fun av L'=>av=I64 r.1∧L'=[(1202,.box 94 [E3 r.2.ship.Columns,E8 r.2.ship.Covers,I64 r.2.ship.Light.Kilos,I64 r.2.ship.Light.X,I64 r.2.ship.Light.Y,I64 r.2.ship.Light.Z,E4 r.2.ship.Rows,E5 r.2.ship.Frames,E6 r.2.ship.Tanks,I64 r.2.ship.G8.Tolerance,I64 r.2.ship.G8.Trim,I64 r.2.ship.G8.List_,I64 r.2.ship.G8.Stability,.mp 1203,.mp 1204,.mp 1205,I64 r.2.lifts]),(1203,TP 90 Slot.kv Box.av r.2.on),(1204,TP 91 Ks Box.av r.2.quay),(1205,TP 92 Ks I64 r.2.open_)]):=by
 unfold G60 at h
 refine Jj [1202,1203,1204,1205] [.tmp 4] Tryz.func13 O O (G0d O) (Jr fun q=>(JLh (.ptr 1017 0) (Q2 (cs:=[U8 x.Kind,I64 x.Box,I64 x.Slot.G3,I64 x.Slot.Tier,U8 x.Slot.Half,I64 x.G9]) 1017 O O O O O) O (JLm (I64 0) O (G5 (q ?_)))))
 refine Gp [(0,.ptr 1202 0),(3,Ef x)] [(1202,.box 94 (Ez m)),(1203,TP 90 Slot.kv Box.av m.on),(1204,TP 91 Ks Box.av m.quay),(1205,TP 92 Ks I64 m.open_)] 1017 rfl rfl rfl ⟨⟨_,rfl,.boxEq rfl rfl⟩,fmQ O,fmQ O,fmQ O,ø⟩ rfl (by exact⟨.conv (.same rfl),.ptr,ø⟩) (Js fun s=>?_)
 refine Jr fun t=>(JLm (.ptr 1202 0) O (JLh (BL true) (Ga0 (args:=[.dptr (Gc.cs m)]) O (Rm m true O) G5d ⟨.ptrL O (dnQ 13 O O ⟨.mp O,.mp O,.mp O,.data O O,ø⟩),ø⟩ O) O (JLh (BL false) (Yc (b:=true) O O) O (G5 (t (G24 O (Gn (s (Js fun u=>Jr fun v=>(JLh (Ef x) (Ga H2d O O O) O (JLh (U8 x.Kind) (Gg Ht O O O) O (G5 (v (Gq ?_))))))))))))))
 obtain⟨w,f,h⟩:=Rv h
 refine Qr (fun e:Bool=>w e=some r) (fun e=>[(0,.ptr 1202 0),(3,Ef x),(9,U8 x.Kind),(10,BL e)]) (fun e=>[(1202,.box 94 (Ez m)),(1203,TP 90 Slot.kv Box.av m.on),(1204,TP 91 Ks Box.av m.quay),(1205,TP 92 Ks I64 m.open_)]) (fun Kj7 ej7=>?_) ?_
 ·
  refine Jr fun y=>(JLh (BL (decide (x.Kind=1))) (Qm O O O) O (JLm (BL (decide (x.Kind=1))) O (G5 (y (JCc O h (fun h hb=>?_) (fun h hb=>?_))))))
  ·
   refine Gn (ej7 _ _ (decide (x.Kind=1)) h ⟨(.sm O O),⟨fbQ O (.sm O O),fmQ O,fmQ O,fmQ O,ø⟩,rfl⟩)
  ·
   refine G2 (JLh (BL (decide (x.Kind=4))) (Qm O O O) O (JLm (BL (decide (x.Kind=4))) O (G5 (ej7 _ _ (decide (x.Kind=4)) h ⟨(.sm O O),⟨fbQ O (.sm O O),fmQ O,fmQ O,fmQ O,ø⟩,rfl⟩))))
 ·intro e h
  replace h:=app1 f h
  refine JCc O h ?_ ?_<;>intro h hb
  ·
   refine Jr fun z=>(JLm (.ptr 1202 0) O (JLh (.agg (Move.cs x)) (Gk H19 O O O) O ?_))
   obtain⟨a,g,h⟩:=Ge h
   refine JLh (I64 a.1) (Z7 (args:=[.ptr 1202 0,.agg (Move.cs x)]) (L0:=[(1202,.box 94 (Ez m)),(1203,TP 90 Slot.kv Box.av m.on),(1204,TP 91 Ks Box.av m.quay),(1205,TP 92 Ks I64 m.open_)]) (Lr:=[(1202,.box 94 [E3 a.2.ship.Columns,E8 a.2.ship.Covers,I64 a.2.ship.Light.Kilos,I64 a.2.ship.Light.X,I64 a.2.ship.Light.Y,I64 a.2.ship.Light.Z,E4 a.2.ship.Rows,E5 a.2.ship.Frames,E6 a.2.ship.Tanks,I64 a.2.ship.G8.Tolerance,I64 a.2.ship.G8.Trim,I64 a.2.ship.G8.List_,I64 a.2.ship.G8.Stability,.mp 1203,.mp 1204,.mp 1205,I64 a.2.lifts]),(1203,TP 90 Slot.kv Box.av a.2.on),(1204,TP 91 Ks Box.av a.2.quay),(1205,TP 92 Ks I64 a.2.open_)]) O (Jd0 m (Move.mk x.Kind x.Box x.Slot x.G9) a g) Rfa ⟨.inl O,O,.inl O,O,ø⟩ ⟨O,O,O,O,ø⟩ O O O) O (JLm (I64 a.1) O (G5 (z ?_)))
   refine Gs ?_
   obtain rfl:=M7 h
   exact⟨[I64 a.1],[(1202,.box 94 [E3 a.2.ship.Columns,E8 a.2.ship.Covers,I64 a.2.ship.Light.Kilos,I64 a.2.ship.Light.X,I64 a.2.ship.Light.Y,I64 a.2.ship.Light.Z,E4 a.2.ship.Rows,E5 a.2.ship.Frames,E6 a.2.ship.Tanks,I64 a.2.ship.G8.Tolerance,I64 a.2.ship.G8.Trim,I64 a.2.ship.G8.List_,I64 a.2.ship.G8.Stability,.mp 1203,.mp 1204,.mp 1205,I64 a.2.lifts]),(1203,TP 90 Slot.kv Box.av a.2.on),(1204,TP 91 Ks Box.av a.2.quay),(1205,TP 92 Ks I64 a.2.open_)],⟨fbQ O (.sm O O),fmQ O,fmQ O,fmQ O,ø⟩,rfl,⟨⟨_,rfl,.conv (.same rfl)⟩,ø⟩,rfl,rfl⟩
  ·
   refine Jr fun i=>(JLh (BL (decide (x.Kind=2))) (Qm O O O) O (JLm (BL (decide (x.Kind=2))) O (G5 (i (JCc O h (fun h hb=>?_) (fun h hb=>?_))))))
   ·
    refine Jr fun j=>(JLm (.ptr 1202 0) O (JLh (.agg (Move.cs x)) (Gk H19 O O O) O ?_))
    obtain⟨c,k,h⟩:=Ge h
    refine JLh (I64 c.1) (Z7 (args:=[.ptr 1202 0,.agg (Move.cs x)]) (L0:=[(1202,.box 94 (Ez m)),(1203,TP 90 Slot.kv Box.av m.on),(1204,TP 91 Ks Box.av m.quay),(1205,TP 92 Ks I64 m.open_)]) (Lr:=[(1202,.box 94 [E3 c.2.ship.Columns,E8 c.2.ship.Covers,I64 c.2.ship.Light.Kilos,I64 c.2.ship.Light.X,I64 c.2.ship.Light.Y,I64 c.2.ship.Light.Z,E4 c.2.ship.Rows,E5 c.2.ship.Frames,E6 c.2.ship.Tanks,I64 c.2.ship.G8.Tolerance,I64 c.2.ship.G8.Trim,I64 c.2.ship.G8.List_,I64 c.2.ship.G8.Stability,.mp 1203,.mp 1204,.mp 1205,I64 c.2.lifts]),(1203,TP 90 Slot.kv Box.av c.2.on),(1204,TP 91 Ks Box.av c.2.quay),(1205,TP 92 Ks I64 c.2.open_)]) O (Q4b m (Move.mk x.Kind x.Box x.Slot x.G9) c k) Rf9 ⟨.inl O,O,.inl O,O,ø⟩ ⟨O,O,O,O,ø⟩ O O O) O (JLm (I64 c.1) O (G5 (j ?_)))
    refine Gs ?_
    obtain rfl:=M7 h
    exact⟨[I64 c.1],[(1202,.box 94 [E3 c.2.ship.Columns,E8 c.2.ship.Covers,I64 c.2.ship.Light.Kilos,I64 c.2.ship.Light.X,I64 c.2.ship.Light.Y,I64 c.2.ship.Light.Z,E4 c.2.ship.Rows,E5 c.2.ship.Frames,E6 c.2.ship.Tanks,I64 c.2.ship.G8.Tolerance,I64 c.2.ship.G8.Trim,I64 c.2.ship.G8.List_,I64 c.2.ship.G8.Stability,.mp 1203,.mp 1204,.mp 1205,I64 c.2.lifts]),(1203,TP 90 Slot.kv Box.av c.2.on),(1204,TP 91 Ks Box.av c.2.quay),(1205,TP 92 Ks I64 c.2.open_)],⟨fbQ O (.sm O O),fmQ O,fmQ O,fmQ O,ø⟩,rfl,⟨⟨_,rfl,.conv (.same rfl)⟩,ø⟩,rfl,rfl⟩
   ·
    refine Jr fun l=>(JLh (BL (decide (x.Kind=3))) (Qm O O O) O (JLm (BL (decide (x.Kind=3))) O (G5 (l (JCc O h (fun h hb=>?_) (fun h hb=>?_))))))
    ·
     refine Jr fun n=>(JLm (.ptr 1202 0) O (JLh (.agg (Move.cs x)) (Gk H19 O O O) O ?_))
     obtain⟨d,o,h⟩:=Ge h
     refine JLh (I64 d.1) (Z7 (args:=[.ptr 1202 0,.agg (Move.cs x)]) (L0:=[(1202,.box 94 (Ez m)),(1203,TP 90 Slot.kv Box.av m.on),(1204,TP 91 Ks Box.av m.quay),(1205,TP 92 Ks I64 m.open_)]) (Lr:=[(1202,.box 94 [E3 d.2.ship.Columns,E8 d.2.ship.Covers,I64 d.2.ship.Light.Kilos,I64 d.2.ship.Light.X,I64 d.2.ship.Light.Y,I64 d.2.ship.Light.Z,E4 d.2.ship.Rows,E5 d.2.ship.Frames,E6 d.2.ship.Tanks,I64 d.2.ship.G8.Tolerance,I64 d.2.ship.G8.Trim,I64 d.2.ship.G8.List_,I64 d.2.ship.G8.Stability,.mp 1203,.mp 1204,.mp 1205,I64 d.2.lifts]),(1203,TP 90 Slot.kv Box.av d.2.on),(1204,TP 91 Ks Box.av d.2.quay),(1205,TP 92 Ks I64 d.2.open_)]) O (Qda m (Move.mk x.Kind x.Box x.Slot x.G9) d o) Rf8 ⟨.inl O,O,.inl O,O,ø⟩ ⟨O,O,O,O,ø⟩ O O O) O (JLm (I64 d.1) O (G5 (n ?_)))
     refine Gs ?_
     obtain rfl:=M7 h
     exact⟨[I64 d.1],[(1202,.box 94 [E3 d.2.ship.Columns,E8 d.2.ship.Covers,I64 d.2.ship.Light.Kilos,I64 d.2.ship.Light.X,I64 d.2.ship.Light.Y,I64 d.2.ship.Light.Z,E4 d.2.ship.Rows,E5 d.2.ship.Frames,E6 d.2.ship.Tanks,I64 d.2.ship.G8.Tolerance,I64 d.2.ship.G8.Trim,I64 d.2.ship.G8.List_,I64 d.2.ship.G8.Stability,.mp 1203,.mp 1204,.mp 1205,I64 d.2.lifts]),(1203,TP 90 Slot.kv Box.av d.2.on),(1204,TP 91 Ks Box.av d.2.quay),(1205,TP 92 Ks I64 d.2.open_)],⟨fbQ O (.sm O O),fmQ O,fmQ O,fmQ O,ø⟩,rfl,⟨⟨_,rfl,.conv (.same rfl)⟩,ø⟩,rfl,rfl⟩
    ·
     refine Gn (u (Jr fun p=>(JLm (I64 310) O (G5 (p (Gs ?_))))))
     obtain rfl:=M7 h
     exact⟨[I64 310],[(1202,.box 94 (Ez m)),(1203,TP 90 Slot.kv Box.av m.on),(1204,TP 91 Ks Box.av m.quay),(1205,TP 92 Ks I64 m.open_)],⟨fbQ O (.sm O O),fmQ O,fmQ O,fmQ O,ø⟩,rfl,⟨⟨_,rfl,.conv (.same rfl)⟩,ø⟩,rfl,rfl⟩
end
end Go.Proofs.YtgcpimpnpcdmmaaGreat
