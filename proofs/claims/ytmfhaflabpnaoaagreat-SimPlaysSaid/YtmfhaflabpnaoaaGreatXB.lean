/- Walks of functions. -/
import Derived.Test.YtmfhaflabpnaoaaGreatSpecU
set_option maxRecDepth 100000
set_option maxHeartbeats 1000000
set_option linter.unusedVariables false
set_option linter.unusedSimpArgs false
namespace Go.Proofs.YtmfhaflabpnaoaaGreat
open Go.RowKit
noncomputable section
structure H7 where
 x:Move
 e:Int
 deriving DecidableEq,Inhabited
def H7.cs (x:H7):List AV:=[U8 x.x.Kind,I64 x.x.Box,I64 x.x.Slot.G1,I64 x.x.Slot.Tier,U8 x.x.Slot.Half,I64 x.x.Ga,I64 x.e]
def H7.av (x:H7):AV:=.agg x.cs
structure Gq where
 G6:G6
 Boxes:List Box
 State:List G3
 Ashore:List Int
 Open:List Int
 Lifts:Int
 deriving DecidableEq,Inhabited
def Gq.cs (x:Gq):List AV:=[E3 x.G6.Columns,E7 x.G6.Covers,I64 x.G6.Light.Kilos,I64 x.G6.Light.X,I64 x.G6.Light.Y,I64 x.G6.Light.Z,E4 x.G6.Rows,E5 x.G6.Frames,E6 x.G6.Tanks,I64 x.G6.G5.Tolerance,I64 x.G6.G5.Trim,I64 x.G6.G5.List_,I64 x.G6.G5.Stability,E8 x.Boxes,E2 x.State,E1 x.Ashore,E1 x.Open,I64 x.Lifts]
namespace XBF
open XAF
open XLF
open XCF
open XSF
open XKF
open XTF
open XUF
theorem Yd2 (a b:G3):J03 Ek 4 70 [.int .i64 a.Box,.int .i64 a.Slot.G1,.int .i64 a.Slot.Tier,.int .u8 a.Slot.Half] [.int .i64 b.Box,.int .i64 b.Slot.G1,.int .i64 b.Slot.Tier,.int .u8 b.Slot.Half]=some (decide (a=b)):=by
 refine(show _=some ((a.Box==b.Box)&&(((a.Slot.G1==b.Slot.G1)&&((a.Slot.Tier==b.Slot.Tier)&&((a.Slot.Half==b.Slot.Half)&&true)))&&true)) by kernel_rfl).trans (congrArg some ?_)
 rw [Bool.eq_iff_iff]
 simp only [Me,beq_iff_eq,Mf,Bool.and_true]
 constructor
 ·intro h; obtain⟨_,⟨_,_,_⟩⟩:=a; obtain⟨_,⟨_,_,_⟩⟩:=b; simp_all
 ·intro h; subst h; simp
theorem Rc8:H10 Ek 61 7=true:=by kernel_rfl
theorem Qf2:G3c Ek 70=true:=by kernel_rfl
theorem R55:H9 Ek 14=true:=by kernel_rfl
theorem G25:H9 Ek 15=true:=by kernel_rfl
theorem Q0b:H9 Ek 16=true:=by kernel_rfl
theorem Q0a:H9 Ek 17=true:=by kernel_rfl
theorem J1e:H9 Ek 18=true:=by kernel_rfl
theorem Q09:H9 Ek 19=true:=by kernel_rfl
theorem Q08:H9 Ek 20=true:=by kernel_rfl
theorem Q07:H9 Ek 21=true:=by kernel_rfl
theorem Q06:H9 Ek 22=true:=by kernel_rfl
theorem R50:H9 Ek 41=true:=by kernel_rfl
theorem J67:H9 Ek 7=true:=by kernel_rfl
theorem Rc4:Ek.eqGuardType Ek.depth 70=false:=by kernel_rfl
theorem G1f:Jz Ek 45 2 14=true:=by kernel_rfl
theorem G71:Jz Ek 45 3 15=true:=by kernel_rfl
theorem G1e:Jz Ek 45 4 16=true:=by kernel_rfl
theorem Ga6:Jz Ek 45 5 17=true:=by kernel_rfl
theorem Q60:Jz Ek 61 0 0=true:=by kernel_rfl
theorem J0c:Jz Ek 61 1 6=true:=by kernel_rfl
theorem Zs:placesOf Ek 61=some [(0,6),(6,1)]:=by kernel_rfl
theorem Gd1:placesOf Ek 72=some [(0,1),(1,1),(2,1),(3,1),(4,1),(5,1),(6,1),(7,1),(8,1),(9,1),(10,1),(11,1)]:=by kernel_rfl
theorem Qab:placesOf Ek 74=some [(0,1),(1,1)]:=by kernel_rfl
theorem G91:Rm Ek 34=true:=by kernel_rfl
theorem R32:Zh Ek 61 7=true:=by kernel_rfl
theorem Hcd:sliceB Ek 62 61 7=true:=by kernel_rfl
theorem G43:(Ek.info? 61).bind (fun i=>i.zero.map Value.cells)=some (List.toArray [.int .u8 0,E0,E0,E0,.int .u8 0,E0,E0]):=by kernel_rfl
theorem H30:(Ek.info? 72).bind (fun i=>i.zero.map Value.cells)=some (List.toArray [E0,E0,.bool false,E0,E0,E0,E0,E0,.slice none 0 0,E0,E0,E0]):=by kernel_rfl
theorem R31:(Ek.info? 74).bind (fun i=>i.zero.map Value.cells)=some (List.toArray [E0,.slice none 0 0]):=by kernel_rfl
theorem Qd7:Yb Ek 32 13=true:=by kernel_rfl
theorem J8f:Yb Ek 61 7=true:=by kernel_rfl
end XBF
open XAF
open XLF
open XCF
open XSF
open XKF
open XTF
open XUF
open XBF

def G54 (m:Gh) (l:List Move):Option (Int×Int×Gh):=
 each (fun d e (b:Gh) c=>
  bnd (G98 b d) fun a=>
  bif decide (a.1≠0) then
  (some ((e:Int),a.1,a.2))
  else
  (c a.2))
 (fun(b:Gh)=>
  some ((l.length:Int),0,b)) l 0 m
abbrev Ka (a:Gh):List AV:=[E3 a.ship.Columns,E7 a.ship.Covers,I64 a.ship.Light.Kilos,I64 a.ship.Light.X,I64 a.ship.Light.Y,I64 a.ship.Light.Z,E4 a.ship.Rows,E5 a.ship.Frames,E6 a.ship.Tanks,I64 a.ship.G5.Tolerance,I64 a.ship.G5.Trim,I64 a.ship.G5.List_,I64 a.ship.G5.Stability,.mp 1159,.mp 1160,.mp 1161,I64 a.lifts]
theorem J87 (m:Gh) (l:List Move) (r:Int×Int×Gh) (h:G54 m l=some r):Jx Ek 11 [.ptr 1158 0,Ea l] [(1158,.box 79 [E3 m.ship.Columns,E7 m.ship.Covers,I64 m.ship.Light.Kilos,I64 m.ship.Light.X,I64 m.ship.Light.Y,I64 m.ship.Light.Z,E4 m.ship.Rows,E5 m.ship.Frames,E6 m.ship.Tanks,I64 m.ship.G5.Tolerance,I64 m.ship.G5.Trim,I64 m.ship.G5.List_,I64 m.ship.G5.Stability,.mp 1159,.mp 1160,.mp 1161,I64 m.lifts]),(1159,TP 75 Slot.kv Box.av m.on),(1160,TP 76 Kn Box.av m.quay),(1161,TP 77 Kn I64 m.open_)] (fun av L'=>av=.tup [I64 r.1,I64 r.2.1]∧L'=[(1158,.box 79 [E3 r.2.2.ship.Columns,E7 r.2.2.ship.Covers,I64 r.2.2.ship.Light.Kilos,I64 r.2.2.ship.Light.X,I64 r.2.2.ship.Light.Y,I64 r.2.2.ship.Light.Z,E4 r.2.2.ship.Rows,E5 r.2.2.ship.Frames,E6 r.2.2.ship.Tanks,I64 r.2.2.ship.G5.Tolerance,I64 r.2.2.ship.G5.Trim,I64 r.2.2.ship.G5.List_,I64 r.2.2.ship.G5.Stability,.mp 1159,.mp 1160,.mp 1161,I64 r.2.2.lifts]),(1159,TP 75 Slot.kv Box.av r.2.2.on),(1160,TP 76 Kn Box.av r.2.2.quay),(1161,TP 77 Kn I64 r.2.2.open_)]):=by
 unfold G54 at h
 refine Ye [1158,1159,1160,1161] [.tmp 4,.tmp 5] Tryz.func11 O O (H18 O) (Jr fun a3=>(JLm (I64 0) O (JLm (I64 0) O (G8 (a3 (Js fun a4=>Jr fun a5=>(JLm (.ptr 1158 0) O (JLh (BL true) (G8e (args:=[.dptr (Gh.cs m)]) O (Ry m true O) G5b ⟨.ptrL O (dnQ 13 O O ⟨.mp O,.mp O,.mp O,.data O O,G⟩),G⟩ O) O (JLh (BL false) (R2 (b:=true) O O) O (G8 (a5 (G42 O (Gn (a4 (Js fun a6=>Jr fun a7=>(JLm (Ea l) O (JLl Jt O O O fun k=>(JLm (I64 0) O (G8 (a7 (Gx ?_)))))))))))))))))))))
 obtain⟨a8,n,o,j,h⟩:=Jf h
 refine Hs (fun d (c:Gh)=>each a8 n (List.drop d l) d c=some r) (fun d c=>[(0,.ptr 1158 0),(1,Ea l),(12,Ea l),(13,Ej l.length),(14,Ej d)]) (fun d c=>[(1158,.box 79 (Ka c)),(1159,TP 75 Slot.kv Box.av c.on),(1160,TP 76 Kn Box.av c.quay),(1161,TP 77 Kn I64 c.open_)]) (fun d=>l.length - d) 0 m h ⟨(.sm O O),⟨fbQ O (.sm O O),fmQ O,fmQ O,fmQ O,G⟩,rfl⟩ ?_
 clear h
 intro d c g b2 a9
 refine Jr fun p=>(JLh (BL (decide ((d:Int) < (l.length:Int)))) (Jq O O O) O (G8 (p (Js fun q=>Gp O (fun hb=>?_) (fun hb=>?_)))))
 ·
  have i:=Q4 hb
  obtain⟨e,b0,s,t,h⟩:=Hz g i
  replace h:=Zi o h
  refine Gn (q (Js fun v=>Gx (Jr fun w=>(JLm (Ej d) O (JLh (Ec e) (H0 (f:=Move.av) (xs:=l) (y:=e) O O O Jt s O) O (JLh (.agg (Move.cs e)) (Gt G23 O O O) O (JLh (.ptr 1020 0) (Jn 1020 6 J90 O O) O (JLm (Ej d) O (J9 (u:=.junk) (He (u:=.agg (Move.cs e)) (ds:=[U8 e.Kind,I64 e.Box,I64 e.Slot.G1,I64 e.Slot.Tier,U8 e.Slot.Half,I64 e.Ga]) Je0 O O O O O O O O) (G8 (w ?_)))))))))))
  refine fzQ [(0,.ptr 1158 0),(1,Ea l),(6,Ej d),(7,Ec e),(12,Ea l),(13,Ej l.length),(14,Ej d)] [(1158,.box 79 (Ka c)),(1159,TP 75 Slot.kv Box.av c.on),(1160,TP 76 Kn Box.av c.quay),(1161,TP 77 Kn I64 c.open_)] 1020 rfl rfl rfl ⟨⟨_,rfl,.boxEq rfl rfl⟩,fmQ O,fmQ O,fmQ O,G⟩ rfl ?_
  refine Jr fun x=>(JLm (.ptr 1158 0) O (JLh (.agg (Move.cs e)) (Gt G23 O O O) O ?_))
  obtain⟨a,z,h⟩:=Gj h
  refine JLh (I64 a.1) (Gbc (args:=[.ptr 1158 0,.agg (Move.cs e)]) (L0:=[(1158,.box 79 (Ka c)),(1159,TP 75 Slot.kv Box.av c.on),(1160,TP 76 Kn Box.av c.quay),(1161,TP 77 Kn I64 c.open_)]) (Lr:=[(1158,.box 79 [E3 a.2.ship.Columns,E7 a.2.ship.Covers,I64 a.2.ship.Light.Kilos,I64 a.2.ship.Light.X,I64 a.2.ship.Light.Y,I64 a.2.ship.Light.Z,E4 a.2.ship.Rows,E5 a.2.ship.Frames,E6 a.2.ship.Tanks,I64 a.2.ship.G5.Tolerance,I64 a.2.ship.G5.Trim,I64 a.2.ship.G5.List_,I64 a.2.ship.G5.Stability,.mp 1159,.mp 1160,.mp 1161,I64 a.2.lifts]),(1159,TP 75 Slot.kv Box.av a.2.on),(1160,TP 76 Kn Box.av a.2.quay),(1161,TP 77 Kn I64 a.2.open_)]) O (He6 c e a z) Q0b ⟨.inl O,O,.inl O,O,G⟩ ⟨O,O,O,O,G⟩ O O O) O (JLm (I64 a.1) O (G8 (x ?_)))
  refine Jr fun a0=>(JLm (I64 a.1) O (JLh (BL (decide (a.1≠0))) (G2c O O O) O (G8 (a0 (JCc O h (fun h hb=>?_) (fun h hb=>?_))))))
  ·
   refine Jr fun a1=>(JLm (Ej d) O (JLm (I64 a.1) O (JLm (Ej d) O (JLm (I64 a.1) O (G8 (a1 (Gs ?_)))))))
   obtain rfl:=M2 h
   exact⟨[Ej d,I64 a.1],[(1158,.box 79 [E3 a.2.ship.Columns,E7 a.2.ship.Covers,I64 a.2.ship.Light.Kilos,I64 a.2.ship.Light.X,I64 a.2.ship.Light.Y,I64 a.2.ship.Light.Z,E4 a.2.ship.Rows,E5 a.2.ship.Frames,E6 a.2.ship.Tanks,I64 a.2.ship.G5.Tolerance,I64 a.2.ship.G5.Trim,I64 a.2.ship.G5.List_,I64 a.2.ship.G5.Stability,.mp 1159,.mp 1160,.mp 1161,I64 a.2.lifts]),(1159,TP 75 Slot.kv Box.av a.2.on),(1160,TP 76 Kn Box.av a.2.quay),(1161,TP 77 Kn I64 a.2.open_)],⟨fbQ O (.sm O O),fmQ O,fmQ O,fmQ O,G⟩,rfl,⟨⟨_,rfl,.conv (.same rfl)⟩,⟨_,rfl,.conv (.same rfl)⟩,G⟩,rfl,rfl⟩
  ·
   refine Gn (v (G2 (JLh (I64 ((d+1:Nat):Int)) (Jo (Hw i k) O O O) O (JLm (I64 ((d+1:Nat):Int)) O (G8 (a9 _ _ (d+1) a.2 (app1 t h) (by omega) ⟨(.sm O O),⟨fbQ O (.sm O O),fmQ O,fmQ O,fmQ O,G⟩,rfl⟩))))))
 ·
  have h:=app1 j (J0 g (Hd hb))
  refine Hy (a6 (Jr fun a2=>(JLm (Ea l) O (JLl Jt O O O fun b1=>(JLm (Ej l.length) O (JLm (I64 0) O (G8 (a2 (Gs ?_)))))))))
  obtain rfl:=M2 h
  exact⟨[Ej l.length,I64 0],[(1158,.box 79 (Ka c)),(1159,TP 75 Slot.kv Box.av c.on),(1160,TP 76 Kn Box.av c.quay),(1161,TP 77 Kn I64 c.open_)],⟨fbQ O (.sm O O),fmQ O,fmQ O,fmQ O,G⟩,rfl,⟨⟨_,rfl,.conv (.same rfl)⟩,⟨_,rfl,.conv (.same rfl)⟩,G⟩,rfl,rfl⟩

def G49 :Option G6:=
 some (G6.mk ([(G1.mk 0 0 false 2 0 0 0 0 [] 0 0 0),(G1.mk 0 1 false 2 0 0 0 0 [] 0 0 0),(G1.mk 0 0 true 3 0 0 0 0 [] 0 0 0),(G1.mk 0 1 true 3 0 0 0 0 [] 0 0 0),(G1.mk 1 1 true 4 0 0 0 0 [] 0 0 0)]) ([(Ga.mk 0 [0,1])]) (Light.mk 0 0 0 0) [] [] [] (G5.mk 0 0 0 0))
abbrev Kb:List AV:=[E3 ([]:List G1),E7 ([]:List Ga),I64 0,I64 0,I64 0,I64 0,E4 ([]:List Row),E5 ([]:List Frame),E6 ([]:List Gr),I64 0,I64 0,I64 0,I64 0]
theorem H44  (r:G6) (h:G49 =some r):Pure Ek 41 [] (·=.agg (G6.cs r)):=by
 unfold G49 at h
 refine H3 [.cell 0 32] Tryz.func41 O O (Jr fun a=>(JLh (.ptr 1057 0) (G8f 1057 Kb [.slice none 0 0,.slice none 0 0,E0,E0,E0,E0,.slice none 0 0,.slice none 0 0,.slice none 0 0,E0,E0,E0,E0] H32 ⟨.inr ⟨_,O,O⟩,.inr ⟨_,O,O⟩,.inl O,.inl O,.inl O,.inl O,.inr ⟨_,O,O⟩,.inr ⟨_,O,O⟩,.inr ⟨_,O,O⟩,.inl O,.inl O,.inl O,.inl O,G⟩ O O) O (G8 (a ?_))))
 refine Jr fun b=>(JLh (.agg [I64 0,I64 0,BL false,I64 2,I64 0,I64 0,I64 0,I64 0,E1 ([]:List Int),I64 0,I64 0,I64 0]) (Hj (cs:=[I64 0,I64 0,BL false,I64 2,I64 0,I64 0,I64 0,I64 0,E1 ([]:List Int),I64 0,I64 0,I64 0]) [(0,1),(1,1),(2,1),(3,1),(4,1),(5,1),(6,1),(7,1),(8,1),(9,1),(10,1),(11,1)] [I64 0,I64 0,BL false,I64 0,I64 0,I64 0,I64 0,I64 0,E1 ([]:List Int),I64 0,I64 0,I64 0] [E0,E0,.bool false,E0,E0,E0,E0,E0,.slice none 0 0,E0,E0,E0] Gd1 H30 ⟨.inl O,.inl O,.inl O,.inl O,.inl O,.inl O,.inl O,.inl O,.inr ⟨_,O,O⟩,.inl O,.inl O,.inl O,G⟩ O O) O (JLh (.agg [I64 0,I64 1,BL false,I64 2,I64 0,I64 0,I64 0,I64 0,E1 ([]:List Int),I64 0,I64 0,I64 0]) (Hj (cs:=[I64 0,I64 1,BL false,I64 2,I64 0,I64 0,I64 0,I64 0,E1 ([]:List Int),I64 0,I64 0,I64 0]) [(0,1),(1,1),(2,1),(3,1),(4,1),(5,1),(6,1),(7,1),(8,1),(9,1),(10,1),(11,1)] [I64 0,I64 0,BL false,I64 0,I64 0,I64 0,I64 0,I64 0,E1 ([]:List Int),I64 0,I64 0,I64 0] [E0,E0,.bool false,E0,E0,E0,E0,E0,.slice none 0 0,E0,E0,E0] Gd1 H30 ⟨.inl O,.inl O,.inl O,.inl O,.inl O,.inl O,.inl O,.inl O,.inr ⟨_,O,O⟩,.inl O,.inl O,.inl O,G⟩ O O) O (JLh (.agg [I64 0,I64 0,BL true,I64 3,I64 0,I64 0,I64 0,I64 0,E1 ([]:List Int),I64 0,I64 0,I64 0]) (Hj (cs:=[I64 0,I64 0,BL true,I64 3,I64 0,I64 0,I64 0,I64 0,E1 ([]:List Int),I64 0,I64 0,I64 0]) [(0,1),(1,1),(2,1),(3,1),(4,1),(5,1),(6,1),(7,1),(8,1),(9,1),(10,1),(11,1)] [I64 0,I64 0,BL false,I64 0,I64 0,I64 0,I64 0,I64 0,E1 ([]:List Int),I64 0,I64 0,I64 0] [E0,E0,.bool false,E0,E0,E0,E0,E0,.slice none 0 0,E0,E0,E0] Gd1 H30 ⟨.inl O,.inl O,.inl O,.inl O,.inl O,.inl O,.inl O,.inl O,.inr ⟨_,O,O⟩,.inl O,.inl O,.inl O,G⟩ O O) O (JLh (.agg [I64 0,I64 1,BL true,I64 3,I64 0,I64 0,I64 0,I64 0,E1 ([]:List Int),I64 0,I64 0,I64 0]) (Hj (cs:=[I64 0,I64 1,BL true,I64 3,I64 0,I64 0,I64 0,I64 0,E1 ([]:List Int),I64 0,I64 0,I64 0]) [(0,1),(1,1),(2,1),(3,1),(4,1),(5,1),(6,1),(7,1),(8,1),(9,1),(10,1),(11,1)] [I64 0,I64 0,BL false,I64 0,I64 0,I64 0,I64 0,I64 0,E1 ([]:List Int),I64 0,I64 0,I64 0] [E0,E0,.bool false,E0,E0,E0,E0,E0,.slice none 0 0,E0,E0,E0] Gd1 H30 ⟨.inl O,.inl O,.inl O,.inl O,.inl O,.inl O,.inl O,.inl O,.inr ⟨_,O,O⟩,.inl O,.inl O,.inl O,G⟩ O O) O (JLh (.agg [I64 1,I64 1,BL true,I64 4,I64 0,I64 0,I64 0,I64 0,E1 ([]:List Int),I64 0,I64 0,I64 0]) (Hj (cs:=[I64 1,I64 1,BL true,I64 4,I64 0,I64 0,I64 0,I64 0,E1 ([]:List Int),I64 0,I64 0,I64 0]) [(0,1),(1,1),(2,1),(3,1),(4,1),(5,1),(6,1),(7,1),(8,1),(9,1),(10,1),(11,1)] [I64 0,I64 0,BL false,I64 0,I64 0,I64 0,I64 0,I64 0,E1 ([]:List Int),I64 0,I64 0,I64 0] [E0,E0,.bool false,E0,E0,E0,E0,E0,.slice none 0 0,E0,E0,E0] Gd1 H30 ⟨.inl O,.inl O,.inl O,.inl O,.inl O,.inl O,.inl O,.inl O,.inr ⟨_,O,O⟩,.inl O,.inl O,.inl O,G⟩ O O) O (JLh (E3 ([(G1.mk 0 0 false 2 0 0 0 0 [] 0 0 0),(G1.mk 0 1 false 2 0 0 0 0 [] 0 0 0),(G1.mk 0 0 true 3 0 0 0 0 [] 0 0 0),(G1.mk 0 1 true 3 0 0 0 0 [] 0 0 0),(G1.mk 1 1 true 4 0 0 0 0 [] 0 0 0)])) (J2 (xs:=[.agg [I64 0,I64 0,BL false,I64 2,I64 0,I64 0,I64 0,I64 0,E1 ([]:List Int),I64 0,I64 0,I64 0],.agg [I64 0,I64 1,BL false,I64 2,I64 0,I64 0,I64 0,I64 0,E1 ([]:List Int),I64 0,I64 0,I64 0],.agg [I64 0,I64 0,BL true,I64 3,I64 0,I64 0,I64 0,I64 0,E1 ([]:List Int),I64 0,I64 0,I64 0],.agg [I64 0,I64 1,BL true,I64 3,I64 0,I64 0,I64 0,I64 0,E1 ([]:List Int),I64 0,I64 0,I64 0],.agg [I64 1,I64 1,BL true,I64 4,I64 0,I64 0,I64 0,I64 0,E1 ([]:List Int),I64 0,I64 0,I64 0]]) O ⟨O,O,O,O,O,O,O,O,O,O,G⟩ Hk Hcc O O O O) O (JLh (E1 [0,1]) (J2 (xs:=[I64 0,I64 1]) O ⟨O,O,O,O,G⟩ Gz Yr O O O O) O (JLh (.agg [I64 0,E1 [0,1]]) (Hj (cs:=[I64 0,E1 [0,1]]) [(0,1),(1,1)] [I64 0,E1 ([]:List Int)] [E0,.slice none 0 0] Qab R31 ⟨.inl O,.inr ⟨_,O,O⟩,G⟩ O O) O (JLh (E7 ([(Ga.mk 0 [0,1])])) (J2 (xs:=[.agg [I64 0,E1 [0,1]]]) O ⟨O,O,G⟩ J7 Gff O O O O) O (JLh (.agg [E3 ([(G1.mk 0 0 false 2 0 0 0 0 [] 0 0 0),(G1.mk 0 1 false 2 0 0 0 0 [] 0 0 0),(G1.mk 0 0 true 3 0 0 0 0 [] 0 0 0),(G1.mk 0 1 true 3 0 0 0 0 [] 0 0 0),(G1.mk 1 1 true 4 0 0 0 0 [] 0 0 0)]),E7 ([(Ga.mk 0 [0,1])]),I64 0,I64 0,I64 0,I64 0,E4 ([]:List Row),E5 ([]:List Frame),E6 ([]:List Gr),I64 0,I64 0,I64 0,I64 0]) (Hj (cs:=[E3 ([(G1.mk 0 0 false 2 0 0 0 0 [] 0 0 0),(G1.mk 0 1 false 2 0 0 0 0 [] 0 0 0),(G1.mk 0 0 true 3 0 0 0 0 [] 0 0 0),(G1.mk 0 1 true 3 0 0 0 0 [] 0 0 0),(G1.mk 1 1 true 4 0 0 0 0 [] 0 0 0)]),E7 ([(Ga.mk 0 [0,1])]),I64 0,I64 0,I64 0,I64 0,E4 ([]:List Row),E5 ([]:List Frame),E6 ([]:List Gr),I64 0,I64 0,I64 0,I64 0]) [(0,1),(1,1),(2,4),(6,1),(7,1),(8,1),(9,4)] Kb [.slice none 0 0,.slice none 0 0,E0,E0,E0,E0,.slice none 0 0,.slice none 0 0,.slice none 0 0,E0,E0,E0,E0] H99 H32 ⟨.inr ⟨_,O,O⟩,.inr ⟨_,O,O⟩,.inl O,.inl O,.inl O,.inl O,.inr ⟨_,O,O⟩,.inr ⟨_,O,O⟩,.inr ⟨_,O,O⟩,.inl O,.inl O,.inl O,.inl O,G⟩ O O) O (J9 (u:=.junk) (He (u:=.agg [E3 ([(G1.mk 0 0 false 2 0 0 0 0 [] 0 0 0),(G1.mk 0 1 false 2 0 0 0 0 [] 0 0 0),(G1.mk 0 0 true 3 0 0 0 0 [] 0 0 0),(G1.mk 0 1 true 3 0 0 0 0 [] 0 0 0),(G1.mk 1 1 true 4 0 0 0 0 [] 0 0 0)]),E7 ([(Ga.mk 0 [0,1])]),I64 0,I64 0,I64 0,I64 0,E4 ([]:List Row),E5 ([]:List Frame),E6 ([]:List Gr),I64 0,I64 0,I64 0,I64 0]) (ds:=[E3 ([(G1.mk 0 0 false 2 0 0 0 0 [] 0 0 0),(G1.mk 0 1 false 2 0 0 0 0 [] 0 0 0),(G1.mk 0 0 true 3 0 0 0 0 [] 0 0 0),(G1.mk 0 1 true 3 0 0 0 0 [] 0 0 0),(G1.mk 1 1 true 4 0 0 0 0 [] 0 0 0)]),E7 ([(Ga.mk 0 [0,1])]),I64 0,I64 0,I64 0,I64 0,E4 ([]:List Row),E5 ([]:List Frame),E6 ([]:List Gr),I64 0,I64 0,I64 0,I64 0]) H34 O O O O O O O O) (G8 (b ?_)))))))))))))
 refine Gs (⟨[.agg [E3 ([(G1.mk 0 0 false 2 0 0 0 0 [] 0 0 0),(G1.mk 0 1 false 2 0 0 0 0 [] 0 0 0),(G1.mk 0 0 true 3 0 0 0 0 [] 0 0 0),(G1.mk 0 1 true 3 0 0 0 0 [] 0 0 0),(G1.mk 1 1 true 4 0 0 0 0 [] 0 0 0)]),E7 ([(Ga.mk 0 [0,1])]),I64 0,I64 0,I64 0,I64 0,E4 ([]:List Row),E5 ([]:List Frame),E6 ([]:List Gr),I64 0,I64 0,I64 0,I64 0]],[],G,O,⟨⟨_,⟨_,_,_,_,O,O,O,.inl ⟨Jm,O⟩⟩,.conv (.same O)⟩,G⟩,O,congrArg (fun r:G6=>(.agg (G6.cs r):AV)) (M2 h)⟩)

def Jy (column:Int) (tier:Int):Option Slot:=
 some (Slot.mk column tier 0)
theorem Q5 (column:Int) (tier:Int) (r:Slot) (h:Jy column tier=some r):Pure Ek 15 [I64 column,I64 tier] (·=.agg [I64 r.G1,I64 r.Tier,U8 r.Half]):=by
 unfold Jy at h
 refine H3 [.cell 4 50] Tryz.func15 O O (Jr fun a=>(JLh (.ptr 1023 0) (G8f 1023 [I64 0,I64 0,U8 0] [E0,E0,.int .u8 0] H31 (zzQ O) O O) O (G8 (a (Jr fun b=>(JLm (I64 column) O (JLm (I64 tier) O (JLh (.agg [I64 column,I64 tier,U8 0]) (Hj (cs:=[I64 column,I64 tier,U8 0]) [(0,1),(1,1),(2,1)] [I64 0,I64 0,U8 0] [E0,E0,.int .u8 0] H21 H31 (zzQ O) O O) O (J9 (u:=.junk) (He (u:=.agg [I64 column,I64 tier,U8 0]) (ds:=[I64 column,I64 tier,U8 0]) G7b O O O O O O O O) (G8 (b (Gs ?_))))))))))))
 exact⟨[.agg [I64 column,I64 tier,U8 0]],[],G,O,⟨⟨_,⟨_,_,_,_,O,O,O,.inl ⟨Hx,O⟩⟩,.conv (.same O)⟩,G⟩,O,congrArg (fun r:Slot=>(.agg [I64 r.G1,I64 r.Tier,U8 r.Half]:AV)) (M2 h)⟩

def G48 :Option (G6×(List Box)×(List G3)):=
 bnd (G49) fun a=>
 bnd (Jy 0 0) fun b=>
 bnd (Jy 3 0) fun c=>
 some (a,[(Box.mk 1 ByteArray.empty 40 false 0 0 0 0 false),(Box.mk 2 ByteArray.empty 40 false 0 0 0 0 false),(Box.mk 3 ByteArray.empty 40 false 0 0 0 0 false)],[(G3.mk 1 b),(G3.mk 2 c)])
theorem H43  (r:G6×(List Box)×(List G3)) (h:G48 =some r):Pure Ek 14 [] (·=.tup [.agg (G6.cs r.1),E8 r.2.1,E2 r.2.2]):=by
 unfold G48 at h
 refine H3 [.cell 0 32,.tmp 1,.tmp 2] Tryz.func14 O O (Jr fun d=>(JLh (.ptr 1022 0) (G8f 1022 [E3 ([]:List G1),E7 ([]:List Ga),I64 0,I64 0,I64 0,I64 0,E4 ([]:List Row),E5 ([]:List Frame),E6 ([]:List Gr),I64 0,I64 0,I64 0,I64 0] [.slice none 0 0,.slice none 0 0,E0,E0,E0,E0,.slice none 0 0,.slice none 0 0,.slice none 0 0,E0,E0,E0,E0] H32 ⟨.inr ⟨_,O,O⟩,.inr ⟨_,O,O⟩,.inl O,.inl O,.inl O,.inl O,.inr ⟨_,O,O⟩,.inr ⟨_,O,O⟩,.inr ⟨_,O,O⟩,.inl O,.inl O,.inl O,.inl O,G⟩ O O) O (JLh (E8 ([]:List Box)) (Jb 9 O O) O (JLh (E2 ([]:List G3)) (Jb 4 O O) O (G8 (d (Jr fun e=>?_)))))))
 obtain⟨c,f,h⟩:=Gj h
 refine JLh (.agg (G6.cs c)) (Gw O (H44  c f) R50 G) O (JLh (.agg [I64 1,ST Kv,U8 40,BL false,I64 0,I64 0,I64 0,U8 0,BL false]) (Hj (cs:=[I64 1,ST Kv,U8 40,BL false,I64 0,I64 0,I64 0,U8 0,BL false]) [(0,1),(1,1),(2,1),(3,1),(4,1),(5,1),(6,1),(7,1),(8,1)] [I64 0,ST Kv,U8 0,BL false,I64 0,I64 0,I64 0,U8 0,BL false] [E0,.string ByteArray.empty,.int .u8 0,.bool false,E0,E0,E0,.int .u8 0,.bool false] Gd0 G7a (zzQ O) O O) O (JLh (.agg [I64 2,ST Kv,U8 40,BL false,I64 0,I64 0,I64 0,U8 0,BL false]) (Hj (cs:=[I64 2,ST Kv,U8 40,BL false,I64 0,I64 0,I64 0,U8 0,BL false]) [(0,1),(1,1),(2,1),(3,1),(4,1),(5,1),(6,1),(7,1),(8,1)] [I64 0,ST Kv,U8 0,BL false,I64 0,I64 0,I64 0,U8 0,BL false] [E0,.string ByteArray.empty,.int .u8 0,.bool false,E0,E0,E0,.int .u8 0,.bool false] Gd0 G7a (zzQ O) O O) O (JLh (.agg [I64 3,ST Kv,U8 40,BL false,I64 0,I64 0,I64 0,U8 0,BL false]) (Hj (cs:=[I64 3,ST Kv,U8 40,BL false,I64 0,I64 0,I64 0,U8 0,BL false]) [(0,1),(1,1),(2,1),(3,1),(4,1),(5,1),(6,1),(7,1),(8,1)] [I64 0,ST Kv,U8 0,BL false,I64 0,I64 0,I64 0,U8 0,BL false] [E0,.string ByteArray.empty,.int .u8 0,.bool false,E0,E0,E0,.int .u8 0,.bool false] Gd0 G7a (zzQ O) O O) O (JLh (E8 [(Box.mk 1 ByteArray.empty 40 false 0 0 0 0 false),(Box.mk 2 ByteArray.empty 40 false 0 0 0 0 false),(Box.mk 3 ByteArray.empty 40 false 0 0 0 0 false)]) (J2 (xs:=[.agg [I64 1,ST Kv,U8 40,BL false,I64 0,I64 0,I64 0,U8 0,BL false],.agg [I64 2,ST Kv,U8 40,BL false,I64 0,I64 0,I64 0,U8 0,BL false],.agg [I64 3,ST Kv,U8 40,BL false,I64 0,I64 0,I64 0,U8 0,BL false]]) O ⟨O,O,O,O,O,O,G⟩ G57 Y1 O O O O) O ?_))))
 obtain⟨a,g,h⟩:=Gj h
 refine JLh (.agg [I64 a.G1,I64 a.Tier,U8 a.Half]) (Gw O (Q5 0 0 a g) G25 ⟨O,O,O,O,G⟩) O (JLh (.agg [I64 1,I64 a.G1,I64 a.Tier,U8 a.Half]) (Hj (cs:=[I64 1,I64 a.G1,I64 a.Tier,U8 a.Half]) [(0,1),(1,3)] [I64 0,I64 0,I64 0,U8 0] [E0,E0,E0,.int .u8 0] G5a Gbd (zzQ O) O O) O ?_)
 obtain⟨b,i,h⟩:=Gj h
 refine JLh (.agg [I64 b.G1,I64 b.Tier,U8 b.Half]) (Gw O (Q5 3 0 b i) G25 ⟨O,O,O,O,G⟩) O (JLh (.agg [I64 2,I64 b.G1,I64 b.Tier,U8 b.Half]) (Hj (cs:=[I64 2,I64 b.G1,I64 b.Tier,U8 b.Half]) [(0,1),(1,3)] [I64 0,I64 0,I64 0,U8 0] [E0,E0,E0,.int .u8 0] G5a Gbd (zzQ O) O O) O (JLh (E2 [(G3.mk 1 a),(G3.mk 2 b)]) (J2 (xs:=[.agg [I64 1,I64 a.G1,I64 a.Tier,U8 a.Half],.agg [I64 2,I64 b.G1,I64 b.Tier,U8 b.Half]]) O ⟨O,O,O,O,G⟩ H6 Yv O O O O) O (J9 (u:=.junk) (He (u:=.agg (G6.cs c)) (ds:=(G6.cs c)) H34 O O O O O O O O) (JLm (E8 [(Box.mk 1 ByteArray.empty 40 false 0 0 0 0 false),(Box.mk 2 ByteArray.empty 40 false 0 0 0 0 false),(Box.mk 3 ByteArray.empty 40 false 0 0 0 0 false)]) O (JLm (E2 [(G3.mk 1 a),(G3.mk 2 b)]) O (G8 (e ?_)))))))
 refine Gs (⟨[.agg (G6.cs c),E8 [(Box.mk 1 ByteArray.empty 40 false 0 0 0 0 false),(Box.mk 2 ByteArray.empty 40 false 0 0 0 0 false),(Box.mk 3 ByteArray.empty 40 false 0 0 0 0 false)],E2 [(G3.mk 1 a),(G3.mk 2 b)]],[],G,O,⟨⟨_,⟨_,_,_,_,O,O,O,.inl ⟨Jm,O⟩⟩,.conv (.same O)⟩,⟨_,O,.conv (.same O)⟩,⟨_,O,.conv (.same O)⟩,G⟩,O,congrArg (fun r:G6×(List Box)×(List G3)=>(.tup [.agg (G6.cs r.1),E8 r.2.1,E2 r.2.2]:AV)) (M2 h)⟩)

def R7 (a:List Int) (b:List Int):Option Bool:=
 bif decide ((a.length:Int)≠(b.length:Int)) then
 (some false)
 else
 (each (fun d e (f:Unit) c=>
   Qr b (e:Int) fun g=>
   bif decide (d≠g) then
   (some false)
   else
   (c ()))
  (fun(f:Unit)=>
   some true) a 0 ())
theorem G30 (a:List Int) (b:List Int) (r:Bool) (h:R7 a b=some r):Pure Ek 18 [E1 a,E1 b] (·=BL r):=by
 unfold R7 at h
 refine H3 [.tmp 4] Tryz.func18 O O (Jr fun a0=>(JLm (BL false) O (G8 (a0 (Js fun a1=>Jr fun a2=>(JLm (E1 a) O (JLl Gz O O O fun a9=>(JLm (E1 b) O (JLl Gz O O O fun b0=>(JLh (BL (decide ((a.length:Int)≠(b.length:Int)))) (G2c O O O) O (G8 (a2 (JCc O h (fun h hb=>?_) (fun h hb=>?_))))))))))))))
 ·
  refine Jr fun a3=>(JLm (BL false) O (G8 (a3 (Gs (fin1 BL h)))))
 ·
  refine Gn (a1 (Js fun a4=>Jr fun a5=>(JLm (I64 0) O (G8 (a5 (Gx ?_))))))
  obtain⟨a6,l,m,k,h⟩:=Jf h
  refine Hs (fun c (d:Unit)=>each a6 l (List.drop c a) c d=some r) (fun c d=>[(0,E1 a),(1,E1 b),(5,Ej c)]) (fun c d=>[]) (fun c=>a.length - c) 0 () h ⟨(.sm O O),G,O⟩ ?_
  clear h
  intro c d i b1 a7
  refine Js fun n=>Jr fun o=>(JLm (Ej c) O (JLm (E1 a) O (JLl Gz O O O fun p=>(JLh (BL (decide ((c:Int) < (a.length:Int)))) (Jq O O O) O (G8 (o (Gp O (fun hb=>?_) (fun hb=>?_))))))))
  ·
   have j:=Q4 hb
   obtain⟨e,a8,q,s,h⟩:=Hz i j
   replace h:=Zi m h
   refine Gn (n (Js fun t=>Gx (Js fun u=>?_)))
   obtain⟨b2,g,v,w,h⟩:=Rr h
   refine JC_d0 Ho (by kernel_rfl) (Dq (E1 a) (G7 O O) O (Dq (Ej c) (G7 O O) O (Dq (.dptr [I64 e]) (H0 (f:=I64) (xs:=a) (y:=e) O O O Gz q O) O (Dq (I64 e) (Ge Gd O O O) O (Dq (E1 b) (G7 O O) O (Dq (Ej c) (G7 O O) O (Dq (.dptr [I64 g]) (H0 (f:=I64) (xs:=b) (y:=g) O O O Gz w v) O (Dq (I64 g) (Ge Gd O O O) O (Dq (BL (decide (e≠g))) (G2c O O O) O (Dnil (u (JCc O h (fun h hb=>?_) (fun h hb=>?_)))))))))))))
   ·
    refine Jr fun x=>(JLm (BL false) O (G8 (x (Gs (fin1 BL h)))))
   ·
    refine Gn (t (G2 (JLm (Ej c) O (JLh (I64 ((c+1:Nat):Int)) (Jo (Hw j p) O O O) O (JLm (I64 ((c+1:Nat):Int)) O (G8 (a7 _ _ (c+1) () (app1 s h) (by omega) ⟨(.sm O O),G,rfl⟩)))))))
  ·
   have h:=app1 k (J0 i (Hd hb))
   refine Hy (a4 (Jr fun z=>(JLm (BL true) O (G8 (z (Gs (fin1 BL h)))))))

def R6 (a:List G3) (b:List G3):Option Bool:=
 bif decide ((a.length:Int)≠(b.length:Int)) then
 (some false)
 else
 (each (fun d e (f:Unit) c=>
   Qr b (e:Int) fun g=>
   bif (!decide (d=g)) then
   (some false)
   else
   (c ()))
  (fun(f:Unit)=>
   some true) a 0 ())
theorem G66 (a:List G3) (b:List G3) (r:Bool) (h:R6 a b=some r):Pure Ek 21 [E2 a,E2 b] (·=BL r):=by
 unfold R6 at h
 refine H3 [.tmp 4] Tryz.func21 O O (Jr fun a0=>(JLm (BL false) O (G8 (a0 (Js fun a1=>Jr fun a2=>(JLm (E2 a) O (JLl H6 O O O fun a9=>(JLm (E2 b) O (JLl H6 O O O fun b0=>(JLh (BL (decide ((a.length:Int)≠(b.length:Int)))) (G2c O O O) O (G8 (a2 (JCc O h (fun h hb=>?_) (fun h hb=>?_))))))))))))))
 ·
  refine Jr fun a3=>(JLm (BL false) O (G8 (a3 (Gs (fin1 BL h)))))
 ·
  refine Gn (a1 (Js fun a4=>Jr fun a5=>(JLm (I64 0) O (G8 (a5 (Gx ?_))))))
  obtain⟨a6,l,m,k,h⟩:=Jf h
  refine Hs (fun c (g:Unit)=>each a6 l (List.drop c a) c g=some r) (fun c g=>[(0,E2 a),(1,E2 b),(5,Ej c)]) (fun c g=>[]) (fun c=>a.length - c) 0 () h ⟨(.sm O O),G,O⟩ ?_
  clear h
  intro c g i b1 a7
  refine Js fun n=>Jr fun o=>(JLm (Ej c) O (JLm (E2 a) O (JLl H6 O O O fun p=>(JLh (BL (decide ((c:Int) < (a.length:Int)))) (Jq O O O) O (G8 (o (Gp O (fun hb=>?_) (fun hb=>?_))))))))
  ·
   have j:=Q4 hb
   obtain⟨d,a8,q,s,h⟩:=Hz i j
   replace h:=Zi m h
   refine Gn (n (Js fun t=>Gx (Js fun u=>?_)))
   obtain⟨b2,e,v,w,h⟩:=Rr h
   refine JC_d0 Ho (by kernel_rfl) (Dq (E2 a) (G7 O O) O (Dq (Ej c) (G7 O O) O (Dq (Ef d) (H0 (f:=G3.av) (xs:=a) (y:=d) O O O H6 q O) O (Dq (.agg (G3.cs d)) (Gt G32 O O O) O (Dq (E2 b) (G7 O O) O (Dq (Ej c) (G7 O O) O (Dq (Ef e) (H0 (f:=G3.av) (xs:=b) (y:=e) O O O H6 w v) O (Dq (.agg (G3.cs e)) (Gt G32 O O O) O (Dq (BL (!decide (d=e))) (Qd0 (vs:=[.int .i64 d.Box,.int .i64 d.Slot.G1,.int .i64 d.Slot.Tier,.int .u8 d.Slot.Half]) (us:=[.int .i64 e.Box,.int .i64 e.Slot.G1,.int .i64 e.Slot.Tier,.int .u8 e.Slot.Half]) 4 O (Yd2 d e) Qf2 Rc4 O O O) O (Dnil (u (JCc O h (fun h hb=>?_) (fun h hb=>?_)))))))))))))
   ·
    refine Jr fun x=>(JLm (BL false) O (G8 (x (Gs (fin1 BL h)))))
   ·
    refine Gn (t (G2 (JLm (Ej c) O (JLh (I64 ((c+1:Nat):Int)) (Jo (Hw j p) O O O) O (JLm (I64 ((c+1:Nat):Int)) O (G8 (a7 _ _ (c+1) () (app1 s h) (by omega) ⟨(.sm O O),G,rfl⟩)))))))
  ·
   have h:=app1 k (J0 i (Hd hb))
   refine Hy (a4 (Jr fun z=>(JLm (BL true) O (G8 (z (Gs (fin1 BL h)))))))

def G17 :Option Bool:=
 bnd (G48) fun h=>
 bnd (G22 h.1 h.2.1 h.2.2 [3]) fun j=>
 bif ((decide (j.2≠0))||false) then
 (some false)
 else
 (bnd (Jy 0 0) fun k=>
  bnd (Jy 3 0) fun l=>
  bnd (Jy 0 0) fun m=>
  bnd (Jy 0 1) fun n=>
  bnd (Jy 0 0) fun o=>
  bnd (Jy 3 0) fun p=>
  bnd (Jy 3 0) fun q=>
  each (fun f w (b:Gh) i=>
   bnd (G98 b f.x) fun g=>
   bif decide (g.1≠f.e) then
   (some false)
   else
   (i g.2))
  (fun(b:Gh)=>
   bnd (Gba b) fun a=>
   bnd (bif decide (a=4) then Z0 b else some default) fun r=>
   bnd (bif decide (a=4) then R7 r [1] else some default) fun c=>
   bnd (bif ((decide (a=4))&&c) then G03 b else some default) fun d=>
   bnd (bif (((decide (a=4))&&c)&&(decide ((d.length:Int)=0))) then G0c b else some default) fun s=>
   bnd (bif (((decide (a=4))&&c)&&(decide ((d.length:Int)=0))) then Jy 3 0 else some default) fun t=>
   bnd (bif (((decide (a=4))&&c)&&(decide ((d.length:Int)=0))) then Jy 0 0 else some default) fun u=>
   bnd (bif (((decide (a=4))&&c)&&(decide ((d.length:Int)=0))) then R6 s [(G3.mk 2 t),(G3.mk 3 u)] else some default) fun v=>
   some ((((decide (a=4))&&c)&&(decide ((d.length:Int)=0)))&&v)) [(H7.mk (Move.mk 2 1 k 0) 315),(H7.mk (Move.mk 1 0 (Slot.mk 0 0 0) 0) 312),(H7.mk (Move.mk 2 2 l 0) 0),(H7.mk (Move.mk 1 0 (Slot.mk 0 0 0) 0) 0),(H7.mk (Move.mk 2 1 m 0) 0),(H7.mk (Move.mk 3 3 n 0) 318),(H7.mk (Move.mk 3 3 o 0) 0),(H7.mk (Move.mk 3 2 p 0) 315),(H7.mk (Move.mk 4 0 (Slot.mk 0 0 0) 0) 0),(H7.mk (Move.mk 3 2 q 0) 0)] 0 j.1)
abbrev Kc (a:Gh):List AV:=[E3 a.ship.Columns,E7 a.ship.Covers,I64 a.ship.Light.Kilos,I64 a.ship.Light.X,I64 a.ship.Light.Y,I64 a.ship.Light.Z,E4 a.ship.Rows,E5 a.ship.Frames,E6 a.ship.Tanks,I64 a.ship.G5.Tolerance,I64 a.ship.G5.Trim,I64 a.ship.G5.List_,I64 a.ship.G5.Stability,.mp 1159,.mp 1160,.mp 1161,I64 a.lifts]
abbrev Kd:List AV:=[U8 0,I64 0,I64 0,I64 0,U8 0,I64 0,I64 0]
abbrev Ke:List AV:=[U8 1,I64 0,I64 0,I64 0,U8 0,I64 0,I64 312]
abbrev Kf:List AV:=[U8 4,I64 0,I64 0,I64 0,U8 0,I64 0,I64 0]
abbrev Kg:List AV:=[U8 1,I64 0,I64 0,I64 0,U8 0,I64 0,I64 0]
theorem H70  (r:Bool) (h:G17 =some r):Pure Ek 5 [] (·=BL r):=by
 unfold G17 at h
 refine H3 [.tmp 0] Tryz.func5 O O (Jr fun d5=>(JLm (BL false) O (G8 (d5 (Jr fun d6=>?_)))))
 obtain⟨o,d7,h⟩:=Gj h
 refine JLh (.tup [.agg (G6.cs o.1),E8 o.2.1,E2 o.2.2]) (Gw O (H43  o d7) R55 G) O (JLm (.tup [.agg (G6.cs o.1),E8 o.2.1,E2 o.2.2]) O (JLh (.agg (G6.cs o.1)) (H4 O O O) O (JLh (E8 o.2.1) (H4 O O O) O (JLh (E2 o.2.2) (H4 O O O) O (JLh (.ptr 1004 0) (Jn 1004 13 Qd7 O O) O (J9 (u:=.junk) (He (u:=.agg (G6.cs o.1)) (ds:=(G6.cs o.1)) H34 O O O O O O O O) (JLm (E8 o.2.1) O (JLm (E2 o.2.2) O (G8 (d6 ?_))))))))))
 refine Gu [(1,Ee o.1),(2,E8 o.2.1),(3,E2 o.2.2)] [] 1004 rfl rfl rfl G rfl (by exact⟨.ptr,.conv (.same rfl),.conv (.same rfl),G⟩) (Jr fun d8=>(JLh (.agg (G6.cs o.1)) (Gt Jm O O O) O (JLm (E8 o.2.1) O (JLm (E2 o.2.2) O (JLh (E1 [3]) (J2 (xs:=[I64 3]) O ⟨O,O,G⟩ Gz Yr O O O O) O ?_)))))
 obtain⟨n,d9,h⟩:=Gj h
 refine JLh (.tup [.ptr 1158 0,I64 n.2]) (Gbc (args:=[.agg (G6.cs o.1),E8 o.2.1,E2 o.2.2,E1 [3]]) (L0:=[]) (Lr:=[(1158,.box 79 [E3 n.1.ship.Columns,E7 n.1.ship.Covers,I64 n.1.ship.Light.Kilos,I64 n.1.ship.Light.X,I64 n.1.ship.Light.Y,I64 n.1.ship.Light.Z,E4 n.1.ship.Rows,E5 n.1.ship.Frames,E6 n.1.ship.Tanks,I64 n.1.ship.G5.Tolerance,I64 n.1.ship.G5.Trim,I64 n.1.ship.G5.List_,I64 n.1.ship.G5.Stability,.mp 1159,.mp 1160,.mp 1161,I64 n.1.lifts]),(1159,TP 75 Slot.kv Box.av n.1.on),(1160,TP 76 Kn Box.av n.1.quay),(1161,TP 77 Kn I64 n.1.open_)]) O (J14 o.1 o.2.1 o.2.2 [3] n d9) J67 ⟨.inl O,O,.inl O,O,.inl O,O,.inl O,O,G⟩ G O O O) O (JLm (.tup [.ptr 1158 0,I64 n.2]) O (JLh (.ptr 1158 0) (H4 O O O) O (JLh (I64 n.2) (H4 O O O) O (JLm (.ptr 1158 0) O (JLm (I64 n.2) O (G8 (d8 ?_)))))))
 refine Js fun e0=>Jr fun e1=>(JLm (I64 n.2) O (JLh (BL (decide (n.2≠0))) (G2c O O O) O (JLm (BL (decide (n.2≠0))) O (JLo (.ptr 1158 0) [] O .scf G (fun hc=>G7 O O) O (JLo (BL false) [24] O .scf ⟨Ua,G⟩ (fun hc=>Y43 Q71 O O) O (JLh (BL ((decide (n.2≠0))||false)) (Ya O O O O) O (G8 (e1 (JCc O h (fun h hb=>?_) (fun h hb=>?_))))))))))
 ·
  refine Jr fun e2=>(JLm (BL false) O (G8 (e2 (Gs (fin1 BL h)))))
 ·
  refine Gn (e0 (Js fun e3=>Jr fun a6=>?_))
  obtain⟨c,a7,h⟩:=Gj h
  refine JLh (.agg (Slot.cs c)) (Gw O (Q5 0 0 c a7) G25 ⟨O,O,O,O,G⟩) O (JLh (.agg [U8 2,I64 1,I64 c.G1,I64 c.Tier,U8 c.Half,I64 0]) (Hj (cs:=[U8 2,I64 1,I64 c.G1,I64 c.Tier,U8 c.Half,I64 0]) [(0,1),(1,1),(2,3),(5,1)] [U8 0,I64 0,I64 0,I64 0,U8 0,I64 0] [.int .u8 0,E0,E0,E0,.int .u8 0,E0] Z6 G09 (zzQ O) O O) O (JLh (.agg [U8 2,I64 1,I64 c.G1,I64 c.Tier,U8 c.Half,I64 0,I64 315]) (Hj (cs:=[U8 2,I64 1,I64 c.G1,I64 c.Tier,U8 c.Half,I64 0,I64 315]) [(0,6),(6,1)] Kd [.int .u8 0,E0,E0,E0,.int .u8 0,E0,E0] Zs G43 (zzQ O) O O) O (JLh (.agg [U8 1,I64 0,I64 0,I64 0,U8 0,I64 0]) (Hj (cs:=[U8 1,I64 0,I64 0,I64 0,U8 0,I64 0]) [(0,1),(1,1),(2,3),(5,1)] [U8 0,I64 0,I64 0,I64 0,U8 0,I64 0] [.int .u8 0,E0,E0,E0,.int .u8 0,E0] Z6 G09 (zzQ O) O O) O (JLh (.agg Ke) (Hj (cs:=Ke) [(0,6),(6,1)] Kd [.int .u8 0,E0,E0,E0,.int .u8 0,E0,E0] Zs G43 (zzQ O) O O) O ?_))))
  obtain⟨d,a8,h⟩:=Gj h
  refine JLh (.agg (Slot.cs d)) (Gw O (Q5 3 0 d a8) G25 ⟨O,O,O,O,G⟩) O (JLh (.agg [U8 2,I64 2,I64 d.G1,I64 d.Tier,U8 d.Half,I64 0]) (Hj (cs:=[U8 2,I64 2,I64 d.G1,I64 d.Tier,U8 d.Half,I64 0]) [(0,1),(1,1),(2,3),(5,1)] [U8 0,I64 0,I64 0,I64 0,U8 0,I64 0] [.int .u8 0,E0,E0,E0,.int .u8 0,E0] Z6 G09 (zzQ O) O O) O (JLh (.agg [U8 2,I64 2,I64 d.G1,I64 d.Tier,U8 d.Half,I64 0,I64 0]) (Hj (cs:=[U8 2,I64 2,I64 d.G1,I64 d.Tier,U8 d.Half,I64 0,I64 0]) [(0,6),(6,1)] Kd [.int .u8 0,E0,E0,E0,.int .u8 0,E0,E0] Zs G43 (zzQ O) O O) O (JLh (.agg [U8 1,I64 0,I64 0,I64 0,U8 0,I64 0]) (Hj (cs:=[U8 1,I64 0,I64 0,I64 0,U8 0,I64 0]) [(0,1),(1,1),(2,3),(5,1)] [U8 0,I64 0,I64 0,I64 0,U8 0,I64 0] [.int .u8 0,E0,E0,E0,.int .u8 0,E0] Z6 G09 (zzQ O) O O) O (JLh (.agg Kg) (Hj (cs:=Kg) [(0,6),(6,1)] Kd [.int .u8 0,E0,E0,E0,.int .u8 0,E0,E0] Zs G43 (zzQ O) O O) O ?_))))
  obtain⟨i,a9,h⟩:=Gj h
  refine JLh (.agg (Slot.cs i)) (Gw O (Q5 0 0 i a9) G25 ⟨O,O,O,O,G⟩) O (JLh (.agg [U8 2,I64 1,I64 i.G1,I64 i.Tier,U8 i.Half,I64 0]) (Hj (cs:=[U8 2,I64 1,I64 i.G1,I64 i.Tier,U8 i.Half,I64 0]) [(0,1),(1,1),(2,3),(5,1)] [U8 0,I64 0,I64 0,I64 0,U8 0,I64 0] [.int .u8 0,E0,E0,E0,.int .u8 0,E0] Z6 G09 (zzQ O) O O) O (JLh (.agg [U8 2,I64 1,I64 i.G1,I64 i.Tier,U8 i.Half,I64 0,I64 0]) (Hj (cs:=[U8 2,I64 1,I64 i.G1,I64 i.Tier,U8 i.Half,I64 0,I64 0]) [(0,6),(6,1)] Kd [.int .u8 0,E0,E0,E0,.int .u8 0,E0,E0] Zs G43 (zzQ O) O O) O ?_))
  obtain⟨j,b0,h⟩:=Gj h
  refine JLh (.agg (Slot.cs j)) (Gw O (Q5 0 1 j b0) G25 ⟨O,O,O,O,G⟩) O (JLh (.agg [U8 3,I64 3,I64 j.G1,I64 j.Tier,U8 j.Half,I64 0]) (Hj (cs:=[U8 3,I64 3,I64 j.G1,I64 j.Tier,U8 j.Half,I64 0]) [(0,1),(1,1),(2,3),(5,1)] [U8 0,I64 0,I64 0,I64 0,U8 0,I64 0] [.int .u8 0,E0,E0,E0,.int .u8 0,E0] Z6 G09 (zzQ O) O O) O (JLh (.agg [U8 3,I64 3,I64 j.G1,I64 j.Tier,U8 j.Half,I64 0,I64 318]) (Hj (cs:=[U8 3,I64 3,I64 j.G1,I64 j.Tier,U8 j.Half,I64 0,I64 318]) [(0,6),(6,1)] Kd [.int .u8 0,E0,E0,E0,.int .u8 0,E0,E0] Zs G43 (zzQ O) O O) O ?_))
  obtain⟨k,b1,h⟩:=Gj h
  refine JLh (.agg (Slot.cs k)) (Gw O (Q5 0 0 k b1) G25 ⟨O,O,O,O,G⟩) O (JLh (.agg [U8 3,I64 3,I64 k.G1,I64 k.Tier,U8 k.Half,I64 0]) (Hj (cs:=[U8 3,I64 3,I64 k.G1,I64 k.Tier,U8 k.Half,I64 0]) [(0,1),(1,1),(2,3),(5,1)] [U8 0,I64 0,I64 0,I64 0,U8 0,I64 0] [.int .u8 0,E0,E0,E0,.int .u8 0,E0] Z6 G09 (zzQ O) O O) O (JLh (.agg [U8 3,I64 3,I64 k.G1,I64 k.Tier,U8 k.Half,I64 0,I64 0]) (Hj (cs:=[U8 3,I64 3,I64 k.G1,I64 k.Tier,U8 k.Half,I64 0,I64 0]) [(0,6),(6,1)] Kd [.int .u8 0,E0,E0,E0,.int .u8 0,E0,E0] Zs G43 (zzQ O) O O) O ?_))
  obtain⟨l,b2,h⟩:=Gj h
  refine JLh (.agg (Slot.cs l)) (Gw O (Q5 3 0 l b2) G25 ⟨O,O,O,O,G⟩) O (JLh (.agg [U8 3,I64 2,I64 l.G1,I64 l.Tier,U8 l.Half,I64 0]) (Hj (cs:=[U8 3,I64 2,I64 l.G1,I64 l.Tier,U8 l.Half,I64 0]) [(0,1),(1,1),(2,3),(5,1)] [U8 0,I64 0,I64 0,I64 0,U8 0,I64 0] [.int .u8 0,E0,E0,E0,.int .u8 0,E0] Z6 G09 (zzQ O) O O) O (JLh (.agg [U8 3,I64 2,I64 l.G1,I64 l.Tier,U8 l.Half,I64 0,I64 315]) (Hj (cs:=[U8 3,I64 2,I64 l.G1,I64 l.Tier,U8 l.Half,I64 0,I64 315]) [(0,6),(6,1)] Kd [.int .u8 0,E0,E0,E0,.int .u8 0,E0,E0] Zs G43 (zzQ O) O O) O (JLh (.agg [U8 4,I64 0,I64 0,I64 0,U8 0,I64 0]) (Hj (cs:=[U8 4,I64 0,I64 0,I64 0,U8 0,I64 0]) [(0,1),(1,1),(2,3),(5,1)] [U8 0,I64 0,I64 0,I64 0,U8 0,I64 0] [.int .u8 0,E0,E0,E0,.int .u8 0,E0] Z6 G09 (zzQ O) O O) O (JLh (.agg Kf) (Hj (cs:=Kf) [(0,6),(6,1)] Kd [.int .u8 0,E0,E0,E0,.int .u8 0,E0,E0] Zs G43 (zzQ O) O O) O ?_))))
  obtain⟨m,b3,h⟩:=Gj h
  refine JLh (.agg (Slot.cs m)) (Gw O (Q5 3 0 m b3) G25 ⟨O,O,O,O,G⟩) O (JLh (.agg [U8 3,I64 2,I64 m.G1,I64 m.Tier,U8 m.Half,I64 0]) (Hj (cs:=[U8 3,I64 2,I64 m.G1,I64 m.Tier,U8 m.Half,I64 0]) [(0,1),(1,1),(2,3),(5,1)] [U8 0,I64 0,I64 0,I64 0,U8 0,I64 0] [.int .u8 0,E0,E0,E0,.int .u8 0,E0] Z6 G09 (zzQ O) O O) O (JLh (.agg [U8 3,I64 2,I64 m.G1,I64 m.Tier,U8 m.Half,I64 0,I64 0]) (Hj (cs:=[U8 3,I64 2,I64 m.G1,I64 m.Tier,U8 m.Half,I64 0,I64 0]) [(0,6),(6,1)] Kd [.int .u8 0,E0,E0,E0,.int .u8 0,E0,E0] Zs G43 (zzQ O) O O) O (JLh (LS 7 H7.av [(H7.mk (Move.mk 2 1 c 0) 315),(H7.mk (Move.mk 1 0 (Slot.mk 0 0 0) 0) 312),(H7.mk (Move.mk 2 2 d 0) 0),(H7.mk (Move.mk 1 0 (Slot.mk 0 0 0) 0) 0),(H7.mk (Move.mk 2 1 i 0) 0),(H7.mk (Move.mk 3 3 j 0) 318),(H7.mk (Move.mk 3 3 k 0) 0),(H7.mk (Move.mk 3 2 l 0) 315),(H7.mk (Move.mk 4 0 (Slot.mk 0 0 0) 0) 0),(H7.mk (Move.mk 3 2 m 0) 0)]) (J2 (xs:=[.agg [U8 2,I64 1,I64 c.G1,I64 c.Tier,U8 c.Half,I64 0,I64 315],.agg Ke,.agg [U8 2,I64 2,I64 d.G1,I64 d.Tier,U8 d.Half,I64 0,I64 0],.agg Kg,.agg [U8 2,I64 1,I64 i.G1,I64 i.Tier,U8 i.Half,I64 0,I64 0],.agg [U8 3,I64 3,I64 j.G1,I64 j.Tier,U8 j.Half,I64 0,I64 318],.agg [U8 3,I64 3,I64 k.G1,I64 k.Tier,U8 k.Half,I64 0,I64 0],.agg [U8 3,I64 2,I64 l.G1,I64 l.Tier,U8 l.Half,I64 0,I64 315],.agg Kf,.agg [U8 3,I64 2,I64 m.G1,I64 m.Tier,U8 m.Half,I64 0,I64 0]]) O ⟨O,O,O,O,O,O,O,O,O,O,O,O,O,O,O,O,O,O,O,O,G⟩ Hcd J8f O O O O) O (JLl Hcd O O O fun b4=>(JLm (I64 0) O (G8 (a6 ?_)))))))
  refine Gx ?_
  obtain⟨e4,b5,b6,a5,h⟩:=Jf h
  refine Hs (fun p (b:Gh)=>each e4 b5 (List.drop p [(H7.mk (Move.mk 2 1 c 0) 315),(H7.mk (Move.mk 1 0 (Slot.mk 0 0 0) 0) 312),(H7.mk (Move.mk 2 2 d 0) 0),(H7.mk (Move.mk 1 0 (Slot.mk 0 0 0) 0) 0),(H7.mk (Move.mk 2 1 i 0) 0),(H7.mk (Move.mk 3 3 j 0) 318),(H7.mk (Move.mk 3 3 k 0) 0),(H7.mk (Move.mk 3 2 l 0) 315),(H7.mk (Move.mk 4 0 (Slot.mk 0 0 0) 0) 0),(H7.mk (Move.mk 3 2 m 0) 0)]) p b=some r) (fun p b=>[(4,.ptr 1158 0),(54,LS 7 H7.av [(H7.mk (Move.mk 2 1 c 0) 315),(H7.mk (Move.mk 1 0 (Slot.mk 0 0 0) 0) 312),(H7.mk (Move.mk 2 2 d 0) 0),(H7.mk (Move.mk 1 0 (Slot.mk 0 0 0) 0) 0),(H7.mk (Move.mk 2 1 i 0) 0),(H7.mk (Move.mk 3 3 j 0) 318),(H7.mk (Move.mk 3 3 k 0) 0),(H7.mk (Move.mk 3 2 l 0) 315),(H7.mk (Move.mk 4 0 (Slot.mk 0 0 0) 0) 0),(H7.mk (Move.mk 3 2 m 0) 0)]),(55,I64 ([(H7.mk (Move.mk 2 1 c 0) 315),(H7.mk (Move.mk 1 0 (Slot.mk 0 0 0) 0) 312),(H7.mk (Move.mk 2 2 d 0) 0),(H7.mk (Move.mk 1 0 (Slot.mk 0 0 0) 0) 0),(H7.mk (Move.mk 2 1 i 0) 0),(H7.mk (Move.mk 3 3 j 0) 318),(H7.mk (Move.mk 3 3 k 0) 0),(H7.mk (Move.mk 3 2 l 0) 315),(H7.mk (Move.mk 4 0 (Slot.mk 0 0 0) 0) 0),(H7.mk (Move.mk 3 2 m 0) 0)].length:Int)),(56,Ej p)]) (fun p b=>[(1158,.box 79 (Kc b)),(1159,TP 75 Slot.kv Box.av b.on),(1160,TP 76 Kn Box.av b.quay),(1161,TP 77 Kn I64 b.open_)]) (fun p=>[(H7.mk (Move.mk 2 1 c 0) 315),(H7.mk (Move.mk 1 0 (Slot.mk 0 0 0) 0) 312),(H7.mk (Move.mk 2 2 d 0) 0),(H7.mk (Move.mk 1 0 (Slot.mk 0 0 0) 0) 0),(H7.mk (Move.mk 2 1 i 0) 0),(H7.mk (Move.mk 3 3 j 0) 318),(H7.mk (Move.mk 3 3 k 0) 0),(H7.mk (Move.mk 3 2 l 0) 315),(H7.mk (Move.mk 4 0 (Slot.mk 0 0 0) 0) 0),(H7.mk (Move.mk 3 2 m 0) 0)].length - p) 0 n.1 h ⟨(.sm O O),⟨fbQ O (.sm O O),fmQ O,fmQ O,fmQ O,G⟩,rfl⟩ ?_
  clear h
  intro p b a3 e7 e5
  refine Jr fun b7=>(JLh (BL (decide ((p:Int) < ([(H7.mk (Move.mk 2 1 c 0) 315),(H7.mk (Move.mk 1 0 (Slot.mk 0 0 0) 0) 312),(H7.mk (Move.mk 2 2 d 0) 0),(H7.mk (Move.mk 1 0 (Slot.mk 0 0 0) 0) 0),(H7.mk (Move.mk 2 1 i 0) 0),(H7.mk (Move.mk 3 3 j 0) 318),(H7.mk (Move.mk 3 3 k 0) 0),(H7.mk (Move.mk 3 2 l 0) 315),(H7.mk (Move.mk 4 0 (Slot.mk 0 0 0) 0) 0),(H7.mk (Move.mk 3 2 m 0) 0)].length:Int)))) (Jq O O O) O (G8 (b7 (Js fun b8=>Gp O (fun hb=>?_) (fun hb=>?_)))))
  ·
   have a4:=Q4 hb
   obtain⟨q,e6,b9,c0,h⟩:=Hz a3 a4
   replace h:=Zi b6 h
   refine Gn (b8 (Js fun c1=>Gx ?_))
   refine Jr fun c2=>(JLh (.dptr (H7.cs q)) (H0 (f:=H7.av) (xs:=[(H7.mk (Move.mk 2 1 c 0) 315),(H7.mk (Move.mk 1 0 (Slot.mk 0 0 0) 0) 312),(H7.mk (Move.mk 2 2 d 0) 0),(H7.mk (Move.mk 1 0 (Slot.mk 0 0 0) 0) 0),(H7.mk (Move.mk 2 1 i 0) 0),(H7.mk (Move.mk 3 3 j 0) 318),(H7.mk (Move.mk 3 3 k 0) 0),(H7.mk (Move.mk 3 2 l 0) 315),(H7.mk (Move.mk 4 0 (Slot.mk 0 0 0) 0) 0),(H7.mk (Move.mk 3 2 m 0) 0)]) (y:=q) O O O Hcd b9 O) O (JLh (.agg (H7.cs q)) (Gt Rc8 O O O) O (JLh (.ptr 1005 0) (Jn 1005 7 J8f O O) O (J9 (u:=.junk) (He (u:=.agg (H7.cs q)) (ds:=(H7.cs q)) R32 O O O O O O O O) (G8 (c2 ?_))))))
   refine fzQ [(4,.ptr 1158 0),(7,.dptr (H7.cs q)),(54,LS 7 H7.av [(H7.mk (Move.mk 2 1 c 0) 315),(H7.mk (Move.mk 1 0 (Slot.mk 0 0 0) 0) 312),(H7.mk (Move.mk 2 2 d 0) 0),(H7.mk (Move.mk 1 0 (Slot.mk 0 0 0) 0) 0),(H7.mk (Move.mk 2 1 i 0) 0),(H7.mk (Move.mk 3 3 j 0) 318),(H7.mk (Move.mk 3 3 k 0) 0),(H7.mk (Move.mk 3 2 l 0) 315),(H7.mk (Move.mk 4 0 (Slot.mk 0 0 0) 0) 0),(H7.mk (Move.mk 3 2 m 0) 0)]),(55,I64 ([(H7.mk (Move.mk 2 1 c 0) 315),(H7.mk (Move.mk 1 0 (Slot.mk 0 0 0) 0) 312),(H7.mk (Move.mk 2 2 d 0) 0),(H7.mk (Move.mk 1 0 (Slot.mk 0 0 0) 0) 0),(H7.mk (Move.mk 2 1 i 0) 0),(H7.mk (Move.mk 3 3 j 0) 318),(H7.mk (Move.mk 3 3 k 0) 0),(H7.mk (Move.mk 3 2 l 0) 315),(H7.mk (Move.mk 4 0 (Slot.mk 0 0 0) 0) 0),(H7.mk (Move.mk 3 2 m 0) 0)].length:Int)),(56,Ej p)] [(1158,.box 79 (Kc b)),(1159,TP 75 Slot.kv Box.av b.on),(1160,TP 76 Kn Box.av b.quay),(1161,TP 77 Kn I64 b.open_)] 1005 rfl rfl rfl ⟨⟨_,rfl,.boxEq rfl rfl⟩,fmQ O,fmQ O,fmQ O,G⟩ rfl ?_
   refine Js fun c3=>?_
   refine Qw (l':=[(4,.ptr 1158 0),(7,.dptr (H7.cs q)),(54,LS 7 H7.av [(H7.mk (Move.mk 2 1 c 0) 315),(H7.mk (Move.mk 1 0 (Slot.mk 0 0 0) 0) 312),(H7.mk (Move.mk 2 2 d 0) 0),(H7.mk (Move.mk 1 0 (Slot.mk 0 0 0) 0) 0),(H7.mk (Move.mk 2 1 i 0) 0),(H7.mk (Move.mk 3 3 j 0) 318),(H7.mk (Move.mk 3 3 k 0) 0),(H7.mk (Move.mk 3 2 l 0) 315),(H7.mk (Move.mk 4 0 (Slot.mk 0 0 0) 0) 0),(H7.mk (Move.mk 3 2 m 0) 0)]),(55,I64 ([(H7.mk (Move.mk 2 1 c 0) 315),(H7.mk (Move.mk 1 0 (Slot.mk 0 0 0) 0) 312),(H7.mk (Move.mk 2 2 d 0) 0),(H7.mk (Move.mk 1 0 (Slot.mk 0 0 0) 0) 0),(H7.mk (Move.mk 2 1 i 0) 0),(H7.mk (Move.mk 3 3 j 0) 318),(H7.mk (Move.mk 3 3 k 0) 0),(H7.mk (Move.mk 3 2 l 0) 315),(H7.mk (Move.mk 4 0 (Slot.mk 0 0 0) 0) 0),(H7.mk (Move.mk 3 2 m 0) 0)].length:Int)),(56,Ej p)]) (L':=[(1158,.box 79 (Kc b)),(1159,TP 75 Slot.kv Box.av b.on),(1160,TP 76 Kn Box.av b.quay),(1161,TP 77 Kn I64 b.open_)]) ⟨(.sm O O),⟨fbQ O (.sm O O),fmQ O,fmQ O,fmQ O,G⟩,rfl⟩ ?_
   obtain⟨a,c4,h⟩:=Gj h
   refine J4 [3] [0,0,0,0,0,0,1] [0,0,0,0,1,1,1] [[(1158,.box 79 (Kc b)),(1159,TP 75 Slot.kv Box.av b.on),(1160,TP 76 Kn Box.av b.quay),(1161,TP 77 Kn I64 b.open_)],[(1158,.box 79 [E3 a.2.ship.Columns,E7 a.2.ship.Covers,I64 a.2.ship.Light.Kilos,I64 a.2.ship.Light.X,I64 a.2.ship.Light.Y,I64 a.2.ship.Light.Z,E4 a.2.ship.Rows,E5 a.2.ship.Frames,E6 a.2.ship.Tanks,I64 a.2.ship.G5.Tolerance,I64 a.2.ship.G5.Trim,I64 a.2.ship.G5.List_,I64 a.2.ship.G5.Stability,.mp 1159,.mp 1160,.mp 1161,I64 a.2.lifts]),(1159,TP 75 Slot.kv Box.av a.2.on),(1160,TP 76 Kn Box.av a.2.quay),(1161,TP 77 Kn I64 a.2.open_)]] Ho (by kernel_rfl) rfl rfl ?_
   refine Gc (u:=.ptr 1158 0) O O ⟨Gi (G7 O O) O,G⟩ (Gc (u:=.dptr (H7.cs q)) O O ⟨Gi (Gb Q60 O O O) O,G⟩ (Gc (u:=.agg (Move.cs q.x)) O O ⟨Gi (Gt G23 O O O) O,G⟩ (D_w (u:=I64 a.1) O O O O (Gi (Gbc (args:=[.ptr 1158 0,.agg (Move.cs q.x)]) (L0:=[(1158,.box 79 (Kc b)),(1159,TP 75 Slot.kv Box.av b.on),(1160,TP 76 Kn Box.av b.quay),(1161,TP 77 Kn I64 b.open_)]) (Lr:=[(1158,.box 79 [E3 a.2.ship.Columns,E7 a.2.ship.Covers,I64 a.2.ship.Light.Kilos,I64 a.2.ship.Light.X,I64 a.2.ship.Light.Y,I64 a.2.ship.Light.Z,E4 a.2.ship.Rows,E5 a.2.ship.Frames,E6 a.2.ship.Tanks,I64 a.2.ship.G5.Tolerance,I64 a.2.ship.G5.Trim,I64 a.2.ship.G5.List_,I64 a.2.ship.G5.Stability,.mp 1159,.mp 1160,.mp 1161,I64 a.2.lifts]),(1159,TP 75 Slot.kv Box.av a.2.on),(1160,TP 76 Kn Box.av a.2.quay),(1161,TP 77 Kn I64 a.2.open_)]) O (He6 b q.x a c4) Q0b ⟨.inl O,O,.inl O,O,G⟩ ⟨O,O,O,O,G⟩ O O O) O) (Gc (u:=.dptr [I64 q.e]) O O ⟨Gi (Gb J0c O O O) O,Gi (Gb J0c O O O) O,G⟩ (Gc (u:=I64 q.e) O O ⟨Gi (Ge H96 O O O) O,Gi (Ge H96 O O O) O,G⟩ (Gc (u:=BL (decide (a.1≠q.e))) O O ⟨Gi (G2c O O O) O,G⟩ (Qp ?_)))))))
   refine c3 (JCc O h (fun h hb=>?_) (fun h hb=>?_))
   ·
    refine Jr fun c5=>(JLm (BL false) O (G8 (c5 (Gs (fin1 BL h)))))
   ·
    refine Gn (c1 (G2 (JLh (I64 ((p+1:Nat):Int)) (Jo (Hw a4 b4) O O O) O (JLm (I64 ((p+1:Nat):Int)) O (G8 (e5 _ _ (p+1) a.2 (app1 c0 h) (by omega) ⟨(.sm O O),⟨fbQ O (.sm O O),fmQ O,fmQ O,fmQ O,G⟩,rfl⟩))))))
  ·
   have h:=app1 a5 (J0 a3 (Hd hb))
   refine Hy (e3 (Jr fun c6=>(JLm (.ptr 1158 0) O ?_)))
   obtain⟨v,c7,h⟩:=Gj h
   refine JLh (I64 v) (G8e (args:=[.dptr (Gh.cs b)]) O (H5c b v c7) Q0a ⟨.ptrL O (dnQ 13 O O ⟨.mp O,.mp O,.mp O,.data O O,G⟩),G⟩ O) O (JLh (BL (decide (v=4))) (Jk O O O) O (JLm (BL (decide (v=4))) O (JLo (.ptr 1158 0) [] O .sct G (fun hc=>G7 O O) O ?_)))
   obtain⟨a0,c8,h⟩:=Gj h
   refine JLo (E1 a0) [72] O .sct ⟨Ua,G⟩ (fun hc=>Hbb (args:=[.dptr (Gh.cs b)]) (g:=I64) (r:=a0) O (J30 b a0 (H1 hc c8)) Q09 ⟨.ptrL O (dnQ 13 O O ⟨.mp O,.mp O,.mp O,.data O O,G⟩),G⟩ (fun _=>O)) O (JLo (E1 [1]) [] O .sct G (fun hc=>J2 (xs:=[I64 1]) O ⟨O,O,G⟩ Gz Yr O O O O) O ?_)
   obtain⟨z,c9,h⟩:=Gj h
   refine JLo (BL z) [73,74] O .sct ⟨Ua,Ua,G⟩ (fun hc=>Gw (args:=[E1 a0,E1 [1]]) O (G30 a0 [1] z (H1 hc c9)) J1e ⟨O,O,O,O,G⟩) O (JLh (BL ((decide (v=4))&&z)) (Jv O O O O) O (JLm (BL ((decide (v=4))&&z)) O (JLo (.ptr 1158 0) [] O .sct G (fun hc=>G7 O O) O ?_)))
   obtain⟨w,d0,h⟩:=Gj h
   refine JLo (E1 w) [78] O .sct ⟨Ua,G⟩ (fun hc=>Hbb (args:=[.dptr (Gh.cs b)]) (g:=I64) (r:=w) O (J89 b w (H1 hc d0)) Q08 ⟨.ptrL O (dnQ 13 O O ⟨.mp O,.mp O,.mp O,.data O O,G⟩),G⟩ (fun _=>O)) O (JLo (Ej w.length) [79] O .sct ⟨Ua,G⟩ (fun hc=>G2d (f:=I64) (xs:=w) Gz O O) O (JLo (BL (decide ((w.length:Int)=0))) [80] O .sct ⟨Ua,G⟩ (fun hc=>Jk O O O) O (JLh (BL (((decide (v=4))&&z)&&(decide ((w.length:Int)=0)))) (Jv O O O O) O (JLm (BL (((decide (v=4))&&z)&&(decide ((w.length:Int)=0)))) O (JLo (.ptr 1158 0) [] O .sct G (fun hc=>G7 O O) O ?_)))))
   obtain⟨a1,d1,h⟩:=Gj h
   refine JLo (E2 a1) [84] O .sct ⟨Ua,G⟩ (fun hc=>Hbb (args:=[.dptr (Gh.cs b)]) (g:=G3.av) (r:=a1) O (J5a.down b a1 (H1 hc d1)) Q06 ⟨.ptrL O (dnQ 13 O O ⟨.mp O,.mp O,.mp O,.data O O,G⟩),G⟩ (fun _=>O)) O ?_
   obtain⟨s,d2,h⟩:=Gj h
   refine JLo (.agg (Slot.cs s)) [] O .sct G (fun hc=>Gw (args:=[I64 3,I64 0]) O (Q5 3 0 s (H1 hc d2)) G25 ⟨O,O,O,O,G⟩) O (JLo (.agg [I64 2,I64 s.G1,I64 s.Tier,U8 s.Half]) [86] O .sct ⟨Ua,G⟩ (fun hc=>Hj (cs:=[I64 2,I64 s.G1,I64 s.Tier,U8 s.Half]) [(0,1),(1,3)] [I64 0,I64 0,I64 0,U8 0] [E0,E0,E0,.int .u8 0] G5a Gbd (zzQ O) O O) O ?_)
   obtain⟨t,d3,h⟩:=Gj h
   refine JLo (.agg (Slot.cs t)) [] O .sct G (fun hc=>Gw (args:=[I64 0,I64 0]) O (Q5 0 0 t (H1 hc d3)) G25 ⟨O,O,O,O,G⟩) O (JLo (.agg [I64 3,I64 t.G1,I64 t.Tier,U8 t.Half]) [88] O .sct ⟨Ua,G⟩ (fun hc=>Hj (cs:=[I64 3,I64 t.G1,I64 t.Tier,U8 t.Half]) [(0,1),(1,3)] [I64 0,I64 0,I64 0,U8 0] [E0,E0,E0,.int .u8 0] G5a Gbd (zzQ O) O O) O (JLo (E2 [(G3.mk 2 s),(G3.mk 3 t)]) [87,89] O .sct ⟨Ua,Ua,G⟩ (fun hc=>J2 (xs:=[.agg [I64 2,I64 s.G1,I64 s.Tier,U8 s.Half],.agg [I64 3,I64 t.G1,I64 t.Tier,U8 t.Half]]) O ⟨O,O,O,O,G⟩ H6 Yv O O O O) O ?_))
   obtain⟨a2,d4,h⟩:=Gj h
   refine JLo (BL a2) [85,90] O .sct ⟨Ua,Ua,G⟩ (fun hc=>Gw (args:=[E2 a1,E2 [(G3.mk 2 s),(G3.mk 3 t)]]) O (G66 a1 [(G3.mk 2 s),(G3.mk 3 t)] a2 (H1 hc d4)) Q07 ⟨O,O,O,O,G⟩) O (JLh (BL ((((decide (v=4))&&z)&&(decide ((w.length:Int)=0)))&&a2)) (Jv O O O O) O (JLm (BL ((((decide (v=4))&&z)&&(decide ((w.length:Int)=0)))&&a2)) O (G8 (c6 (Gs (fin1 BL h))))))

def Yj (m:Gh) (r_:Gq):Option Bool:=
 bnd (G0c m) fun d=>
 bnd (R6 d r_.State) fun a=>
 bnd (bif a then Z0 m else some default) fun e=>
 bnd (bif a then R7 e r_.Ashore else some default) fun b=>
 bnd (bif (a&&b) then G03 m else some default) fun f=>
 bnd (bif (a&&b) then R7 f r_.Open else some default) fun c=>
 bnd (bif ((a&&b)&&c) then Gba m else some default) fun g=>
 some (((a&&b)&&c)&&(decide (g=r_.Lifts)))
theorem H89 (m:Gh) (r_:Gq) (r:Bool) (h:Yj m r_=some r):Pure Ek 12 [.dptr (Gh.cs m),.agg (Gq.cs r_)] (·=BL r):=by
 unfold Yj at h
 refine H3 [.tmp 4] Tryz.func12 O O (Jr fun i=>(JLh (.ptr 1021 0) (Ju (cs:=(Gq.cs r_)) 1021 O O O O O) O (JLm (BL false) O (G8 (i ?_)))))
 refine Gu [(0,Ed m),(3,.dptr (Gq.cs r_))] [] 1021 rfl rfl rfl G rfl (by exact⟨.conv (.same rfl),.ptr,G⟩) (Js fun j=>?_)
 obtain⟨e,k,h⟩:=Gj h
 obtain⟨a,l,h⟩:=Gj h
 obtain⟨f,n,h⟩:=Gj h
 obtain⟨b,o,h⟩:=Gj h
 obtain⟨g,p,h⟩:=Gj h
 obtain⟨c,q,h⟩:=Gj h
 obtain⟨d,s,h⟩:=Gj h
 refine JC_d0 Ho (by kernel_rfl) (Dq (Ed m) (G7 O O) O (Dq (E2 e) (Gw (args:=[.dptr (Gh.cs m)]) O (J59.down m e k) Q06 ⟨O,O,G⟩) O (Dq (.dptr [E2 r_.State,E1 r_.Ashore,E1 r_.Open,I64 r_.Lifts]) (Gb G1f O O O) O (Dq (E2 r_.State) (Ge G91 O O O) O (Dq (BL a) (Gw (args:=[E2 e,E2 r_.State]) O (G66 e r_.State a l) Q07 ⟨O,O,O,O,G⟩) O (Dq (BL a) (G7 O O) O (Do (Ed m) [] O .sct G (fun hc=>G7 O O) O (Do (E1 f) [11] O .sct ⟨Ua,G⟩ (fun hc=>Gw (args:=[.dptr (Gh.cs m)]) O (J2f m f (H1 hc n)) Q09 ⟨O,O,G⟩) O (Do (.dptr [E1 r_.Ashore,E1 r_.Open,I64 r_.Lifts]) [] O .sct G (fun hc=>Gb G71 O O O) O (Do (E1 r_.Ashore) [13] O .sct ⟨Ua,G⟩ (fun hc=>Ge Hq O O O) O (Do (BL b) [12,14] O .sct ⟨Ua,Ua,G⟩ (fun hc=>Gw (args:=[E1 f,E1 r_.Ashore]) O (G30 f r_.Ashore b (H1 hc o)) J1e ⟨O,O,O,O,G⟩) O (Dq (BL (a&&b)) (Jv O O O O) O (Dq (BL (a&&b)) (G7 O O) O ?_)))))))))))))
 refine Do (Ed m) [] O .sct G (fun hc=>G7 O O) O (Do (E1 g) [18] O .sct ⟨Ua,G⟩ (fun hc=>Gw (args:=[.dptr (Gh.cs m)]) O (J88 m g (H1 hc p)) Q08 ⟨O,O,G⟩) O (Do (.dptr [E1 r_.Open,I64 r_.Lifts]) [] O .sct G (fun hc=>Gb G1e O O O) O (Do (E1 r_.Open) [20] O .sct ⟨Ua,G⟩ (fun hc=>Ge Hq O O O) O (Do (BL c) [19,21] O .sct ⟨Ua,Ua,G⟩ (fun hc=>Gw (args:=[E1 g,E1 r_.Open]) O (G30 g r_.Open c (H1 hc q)) J1e ⟨O,O,O,O,G⟩) O (Dq (BL ((a&&b)&&c)) (Jv O O O O) O (Dq (BL ((a&&b)&&c)) (G7 O O) O (Do (Ed m) [] O .sct G (fun hc=>G7 O O) O (Do (I64 d) [25] O .sct ⟨Ua,G⟩ (fun hc=>Gw (args:=[.dptr (Gh.cs m)]) O (H5c m d (H1 hc s)) Q0a ⟨O,O,G⟩) O (Do (.dptr [I64 r_.Lifts]) [] O .sct G (fun hc=>Gb Ga6 O O O) O (Do (I64 r_.Lifts) [27] O .sct ⟨Ua,G⟩ (fun hc=>Ge Gd O O O) O (Do (BL (decide (d=r_.Lifts))) [26,28] O .sct ⟨Ua,Ua,G⟩ (fun hc=>Jk O O O) O (Dq (BL (((a&&b)&&c)&&(decide (d=r_.Lifts)))) (Jv O O O O) O (Dq (BL (((a&&b)&&c)&&(decide (d=r_.Lifts)))) (G9 O O) O (Dnil ?_))))))))))))))
 refine j (Gs (fin1 BL h))
end
end Go.Proofs.YtmfhaflabpnaoaaGreat
