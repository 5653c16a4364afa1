/-
 Models of functions of the program,and that they return what the models say.
-/
import Derived.Test.YtidpfkmbfgihlaaGreatSpecW
set_option maxRecDepth 100000
set_option maxHeartbeats 1000000
set_option linter.unusedVariables false
set_option linter.unusedSimpArgs false
namespace Go.Proofs.YtidpfkmbfgihlaaGreat
open Go.RowKit
noncomputable section
structure Box where
 ID:Int
 Number:ByteArray
 Size:Int
 High:Bool
 Kilos:Int
 Load:Int
 Discharge:Int
 Class:Int
 Reefer:Bool
 deriving DecidableEq,Inhabited
def Box.cs (x:Box):List AV:=[I64 x.ID,ST x.Number,U8 x.Size,BL x.High,I64 x.Kilos,I64 x.Load,I64 x.Discharge,U8 x.Class,BL x.Reefer]
def Box.av (x:Box):AV:=.agg x.cs
abbrev Eh (x:Box):AV:=.dptr (Box.cs x)
abbrev E8:=LS 9 Box.av
def Slot.ks (x:Slot):List Value:=[.int .i64 x.G2,.int .i64 x.Tier,.int .u8 x.Half]
def Slot.kv (x:Slot):Value:=.agg x.ks.toArray
structure Gb where
 ship:Gk
 on:Gt Slot Box
 quay:Gt Int Box
 open_:Gt Int Int
 lifts:Int
 deriving Inhabited
def Gb.cs (x:Gb):List AV:=[E1 x.ship.Columns,E7 x.ship.Covers,I64 x.ship.Light.Kilos,I64 x.ship.Light.X,I64 x.ship.Light.Y,I64 x.ship.Light.Z,E3 x.ship.Rows,E4 x.ship.Frames,E5 x.ship.Tanks,I64 x.ship.G4.Tolerance,I64 x.ship.G4.Trim,I64 x.ship.G4.List_,I64 x.ship.G4.Stability,DM Slot.kv Box.av x.on,DM (fun n:Int=>Value.int .i64 n) Box.av x.quay,DM (fun n:Int=>Value.int .i64 n) I64 x.open_,I64 x.lifts]
def Gb.av (x:Gb):AV:=.agg x.cs
abbrev Ef (x:Gb):AV:=.dptr (Gb.cs x)
structure J5 where
 f:FuncId
 c:List AV
 val:Option Bool
 bad:Int
 B:H7 Eo f=true
 d:Qy (fun _=>false) c=true
 w:∀ q,val=some q→Pure Eo f ([]++c) (·=BL q)
def J5.cs (x:J5):List AV:=[.fn x.f x.c,I64 x.bad]
def J5.av (x:J5):AV:=.agg x.cs
def H1c:List (Option Bool×Int)→Option Int
 | []=>some 0
 | (v,b)::r=>v.bind fun q=>bif q then H1c r else some b
namespace XSF
open XAF
open XCF
theorem Y74 (a b:Slot):J79 Eo 4 43 [.int .i64 a.G2,.int .i64 a.Tier,.int .u8 a.Half] [.int .i64 b.G2,.int .i64 b.Tier,.int .u8 b.Half]=some (decide (a=b)):=by
 refine(show _=some ((a.G2==b.G2)&&((a.Tier==b.Tier)&&((a.Half==b.Half)&&true))) by kernel_rfl).trans (congrArg some ?_)
 rw [Bool.eq_iff_iff]
 simp only [Bool.and_eq_true,beq_iff_eq,decide_eq_true_eq,Bool.and_true]
 constructor
 ·intro h; obtain⟨_,_,_⟩:=a; obtain⟨_,_,_⟩:=b; simp_all
 ·intro h; subst h; simp
theorem Q6a:Gf2 Eo 148 2=true:=by kernel_rfl
theorem Hq:Gf2 Eo 36 13=true:=by kernel_rfl
theorem Hu:Gf2 Eo 43 3=true:=by kernel_rfl
theorem Yj:Gf2 Eo 60 9=true:=by kernel_rfl
theorem Q02:G48 Eo 43=true:=by kernel_rfl
theorem H5b:Q1f Eo 4=true:=by kernel_rfl
theorem R64:H7 Eo 102=true:=by kernel_rfl
theorem R63:H7 Eo 103=true:=by kernel_rfl
theorem R61:H7 Eo 106=true:=by kernel_rfl
theorem R60:H7 Eo 107=true:=by kernel_rfl
theorem Jfd:H7 Eo 108=true:=by kernel_rfl
theorem R5c:H7 Eo 113=true:=by kernel_rfl
theorem J15:H7 Eo 126=true:=by kernel_rfl
theorem R54:H7 Eo 127=true:=by kernel_rfl
theorem Jf9:H7 Eo 128=true:=by kernel_rfl
theorem Jf7:H7 Eo 133=true:=by kernel_rfl
theorem R51:H7 Eo 146=true:=by kernel_rfl
theorem R50:H7 Eo 147=true:=by kernel_rfl
theorem R4f:H7 Eo 148=true:=by kernel_rfl
theorem R4c:H7 Eo 155=true:=by kernel_rfl
theorem G86:H7 Eo 34=true:=by kernel_rfl
theorem H64:H7 Eo 47=true:=by kernel_rfl
theorem H63:H7 Eo 51=true:=by kernel_rfl
theorem Qe2:Eo.eqGuardType Eo.depth 43=false:=by kernel_rfl
theorem Q4d:Jj Eo 148 0 0=true:=by kernel_rfl
theorem Q4c:Jj Eo 148 1 1=true:=by kernel_rfl
theorem Jc:Jj Eo 43 0 0=true:=by kernel_rfl
theorem Zb:Jj Eo 43 1 1=true:=by kernel_rfl
theorem Re:Jj Eo 43 2 2=true:=by kernel_rfl
theorem Rc:Jj Eo 60 0 0=true:=by kernel_rfl
theorem Rx:Jj Eo 60 2 2=true:=by kernel_rfl
theorem H17:Jj Eo 60 3 3=true:=by kernel_rfl
theorem Rb:Jj Eo 97 0 0=true:=by kernel_rfl
theorem Ye:Jj Eo 97 1 13=true:=by kernel_rfl
theorem G71:Jj Eo 97 3 15=true:=by kernel_rfl
theorem Gbc:Jj Eo 97 4 16=true:=by kernel_rfl
theorem Rab:Y1f Eo 93=true:=by kernel_rfl
theorem G4a:Zj Eo 93 43 60=true:=by kernel_rfl
theorem H5a:Zj Eo 95 3 3=true:=by kernel_rfl
theorem Zw:placesOf Eo 148=some [(0,1),(1,1)]:=by kernel_rfl
theorem G5f:placesOf Eo 60=some [(0,1),(1,1),(2,1),(3,1),(4,1),(5,1),(6,1),(7,1),(8,1)]:=by kernel_rfl
theorem H59:Y4d Eo 39=true:=by kernel_rfl
theorem Gbb:Y4 Eo 136=true:=by kernel_rfl
theorem R19:Y4 Eo 25=true:=by kernel_rfl
theorem Hcb:Y4 Eo 47=true:=by kernel_rfl
theorem Yh:Y4 Eo 93=true:=by kernel_rfl
theorem G5e:Y4 Eo 95=true:=by kernel_rfl
theorem Jf1:Yt Eo 148 2=true:=by kernel_rfl
theorem Zr:Yt Eo 43 3=true:=by kernel_rfl
theorem Rq:Yt Eo 60 9=true:=by kernel_rfl
theorem Ro:sliceB Eo 136 43 3=true:=by kernel_rfl
theorem Gea:sliceB Eo 183 148 2=true:=by kernel_rfl
theorem Y8:sliceB Eo 37 60 9=true:=by kernel_rfl
theorem G1b:(Eo.info? 148).bind (fun i=>i.zero.map Value.cells)=some (List.toArray [.nilFunc,E0]):=by kernel_rfl
theorem G5c:(Eo.info? 60).bind (fun i=>i.zero.map Value.cells)=some (List.toArray [E0,.string ByteArray.empty,.int .u8 0,.bool false,E0,E0,E0,.int .u8 0,.bool false]):=by kernel_rfl
theorem H4d:Y1 Eo 148 2=true:=by kernel_rfl
theorem R5:Y1 Eo 3 1=true:=by kernel_rfl
theorem Z4:Y1 Eo 43 3=true:=by kernel_rfl
theorem Qt:Y1 Eo 60 9=true:=by kernel_rfl
theorem Q44:Gd3 Eo 3 (fun n:Int=>Value.int .i64 n):=Gd3.of_int (by kernel_rfl)
theorem Qe0:Gd3 Eo 43 Slot.kv:=Gd3.of_eq Slot.ks (by kernel_rfl) (fun a b h=>by simp only [Slot.ks,List.cons.injEq,Value.int.injEq,Value.bool.injEq,Value.string.injEq,true_and,and_true] at h; obtain⟨_,_,_⟩:=a; obtain⟨_,_,_⟩:=b; simp_all) 4 (by decide) (fun a b=>Y74 a b) (fun a=>by kernel_rfl) (fun a=>by simp [Instr.sameBits,Slot.ks])
end XSF
open XAF
open XCF
open XSF

def Gc5 (b:Box) (p1:Int):Option Bool:=
 some (decide (b.ID=p1))
theorem Q29 (b:Box) (p1:Int) (r:Bool) (h:Gc5 b p1=some r):Pure Eo 103 [.agg (Box.cs b),.dptr [I64 p1]] (·=BL r):=by
 unfold Gc5 at h
 refine Gy [.tmp 3] Tryz.func103 O O (Jr fun hK1=>(JLh (.ptr 1155 0) (Jk (cs:=(Box.cs b)) 1155 O O O O O) O (JLm (BL false) O (G5 (hK1 (Gm [(1,.dptr [I64 p1]),(2,Eh b)] [] 1155 rfl rfl rfl G rfl (by exact⟨.conv (.same rfl),.ptr,G⟩) (Jr fun hK2=>(JLh (Eh b) (G9 Rc O O O) O (JLh (I64 b.ID) (Gg Gc O O O) O (JLh (I64 p1) (Gg Gc O O O) O (JLh (BL (decide (b.ID=p1))) (Q0 O O O) O (JLm (BL (decide (b.ID=p1))) O (G5 (hK2 (Gq (fin1 BL h))))))))))))))))

def Zo (s:List Box) (f:Box→Option Bool):Option Int:=
 each (fun y20 i20 (s20:Unit) nx20=>
  bnd (f y20) fun r26=>
  bif r26 then
  (some (i20:Int))
  else
  (nx20 ()))
 (fun(s20:Unit)=>
  some (-1)) s 0 ()
theorem H52 (s:List Box) (f:Box→Option Bool) (f_f:FuncId) (f_c:List AV) (f_B:H7 Eo f_f=true) (f_d:Qy (fun _=>false) f_c=true) (f_w:∀ a0 q,f a0=some q→Pure Eo f_f ([.agg (Box.cs a0)]++f_c) (·=BL q)) (r:Int) (h:Zo s f=some r):Pure Eo 102 [E8 s,.fn f_f f_c] (·=I64 r):=by
 unfold Zo at h
 refine Gy [.tmp 4] Tryz.func102 O O (Jr fun hK1=>(JLm (I64 0) O (G5 (hK1 (Js fun hK2=>Jr fun hK3=>(JLm (E8 s) O (JLl Y8 O O O fun hm7=>(JLm (I64 0) O (G5 (hK3 (Gw ?_)))))))))))
 obtain⟨b20,kx20,hb20,hkx20,h⟩:=Jx h
 refine Jb (fun i20 (s20:Unit)=>each b20 kx20 (List.drop i20 s) i20 s20=some r) (fun i20 s20=>[(0,E8 s),(1,.fn f_f f_c),(7,En s.length),(8,En i20)]) (fun i20 s20=>[]) (fun i20=>s.length - i20) 0 () h ⟨⟨.same O,.same (Jq _ _ f_d),.same O,.same O,G⟩,G,O⟩ ?_
 clear h
 intro i20 s20 hi20 K20 e20
 refine Jr fun hK21=>(JLh (BL (decide ((i20:Int) < (s.length:Int)))) (Qg O O O) O (G5 (hK21 (Js fun hK22=>Gn O (fun hb=>?_) (fun hb=>?_)))))
 ·
  have hk20:=Qr hb
  obtain⟨y20,nx20,hy20,hn20,h⟩:=J9 hi20 hk20
  replace h:=G17 hb20 h
  refine Gr (hK22 (Js fun hK23=>Gw (Jr fun hK24=>(JLm (En i20) O (JLm (En i20) O (G5 (hK24 (Jr fun hK25=>(JLm (.fn f_f f_c) O (JLm (E8 s) O (JLm (En i20) O (JLh (Eh y20) (Hf (f:=Box.av) (xs:=s) (y:=y20) O O O Y8 hy20 O) O (JLh (.agg (Box.cs y20)) (Gi Yj O O O) O ?_)))))))))))))
  obtain⟨r26,hr26,h⟩:=Ga h
  refine JLh (BL r26) (G40 (args:=[.agg (Box.cs y20)]) (caps:=f_c) O O (f_w y20 _ hr26) f_B ⟨O,O,G⟩ f_d) O (G5 (hK25 (JCc O h (fun h hb=>?_) (fun h hb=>?_))))
  ·
   refine Jr fun hK27=>(JLm (En i20) O (JLm (En i20) O (G5 (hK27 (Gq (fin1 I64 h))))))
  ·
   refine Gr (hK23 (G1 (JLh (I64 ((i20+1:Nat):Int)) (Jf (J6 hk20 hm7) O O O) O (JLm (I64 ((i20+1:Nat):Int)) O (G5 (e20 _ _ (i20+1) () (app1 hn20 h) (by omega) ⟨⟨.same rfl,.same (Jq _ _ f_d),.same rfl,.same rfl,G⟩,G,rfl⟩))))))
 ·
  have h:=app1 hkx20 (Ja hi20 (Hs hb))
  refine Je (hK2 (Jr fun hK28=>(JLm (I64 (-1)) O (G5 (hK28 (Gq (fin1 I64 h)))))))

def G38 (boxes:List Box) (id_:Int):Option (Box×Bool):=
 bnd (Zo boxes (fun z0=>Gc5 z0 id_)) fun r3=>
 bif decide (r3 < 0) then
 (some ((Box.mk 0 ByteArray.empty 0 false 0 0 0 0 false),false))
 else
 (Yy boxes r3 fun y8=>
  some (y8,true))
theorem Gc4 (boxes:List Box) (id_:Int) (r:Box×Bool) (h:G38 boxes id_=some r):Pure Eo 47 [E8 boxes,I64 id_] (·=.tup [.agg (Box.cs r.1),BL r.2]):=by
 unfold G38 at h
 refine Gy [.cell 4 60,.tmp 5] Tryz.func47 O O (Jr fun hK1=>(JLh (.ptr 1094 0) (Jk (cs:=[I64 id_]) 1094 O O O O O) O (JLh (.ptr 1095 0) (G58 1095 [I64 0,ST ByteArray.empty,U8 0,BL false,I64 0,I64 0,I64 0,U8 0,BL false] [E0,.string ByteArray.empty,.int .u8 0,.bool false,E0,E0,E0,.int .u8 0,.bool false] G5c ⟨.inl O,.inl O,.inl O,.inl O,.inl O,.inl O,.inl O,.inl O,.inl O,G⟩ O O) O (JLm (BL false) O (G5 (hK1 (Gm [(0,E8 boxes),(3,.dptr [I64 id_]),(4,.ptr 1095 0)] [(1095,.box 60 [I64 0,ST ByteArray.empty,U8 0,BL false,I64 0,I64 0,I64 0,U8 0,BL false])] 1094 rfl rfl rfl ⟨⟨_,rfl,.boxEq rfl rfl⟩,G⟩ rfl (by exact⟨.conv (.same rfl),.ptr,.conv (.same rfl),G⟩) ?_)))))))
 refine Jr fun hK2=>(JLm (E8 boxes) O (JLh (.fn 103 [.dptr [I64 id_]]) (Jy (cs:=[.dptr [I64 id_]]) O O) O ?_))
 obtain⟨r3,hr3,h⟩:=Ga h
 refine JLh (I64 r3) (Gs O (H52 boxes (fun z0=>Gc5 z0 id_) 103 [.dptr [I64 id_]] R63 O (fun z0 q hq=>Q29 z0 id_ q hq) r3 hr3) R64 ⟨O,O,O,O,G⟩) O (JLm (I64 r3) O (G5 (hK2 (Js fun hK4=>Jr fun hK5=>(JLm (I64 r3) O (JLh (BL (decide (r3 < 0))) (Qg O O O) O (G5 (hK5 (JCc O h (fun h hb=>?_) (fun h hb=>?_))))))))))
 ·
  refine Jr fun hK6=>(JLh (.agg [I64 0,ST ByteArray.empty,U8 0,BL false,I64 0,I64 0,I64 0,U8 0,BL false]) (Hb (cs:=[I64 0,ST ByteArray.empty,U8 0,BL false,I64 0,I64 0,I64 0,U8 0,BL false]) [(0,1),(1,1),(2,1),(3,1),(4,1),(5,1),(6,1),(7,1),(8,1)] [I64 0,ST ByteArray.empty,U8 0,BL false,I64 0,I64 0,I64 0,U8 0,BL false] [E0,.string ByteArray.empty,.int .u8 0,.bool false,E0,E0,E0,.int .u8 0,.bool false] G5f G5c ⟨.inl O,.inl O,.inl O,.inl O,.inl O,.inl O,.inl O,.inl O,.inl O,G⟩ O O) O (Ho (u:=.junk) (Hc (u:=.agg [I64 0,ST ByteArray.empty,U8 0,BL false,I64 0,I64 0,I64 0,U8 0,BL false]) (ds:=[I64 0,ST ByteArray.empty,U8 0,BL false,I64 0,I64 0,I64 0,U8 0,BL false]) Rq O O O O O O O O) (JLm (BL false) O (G5 (hK6 ?_)))))
  refine Gq (⟨[.agg [I64 0,ST ByteArray.empty,U8 0,BL false,I64 0,I64 0,I64 0,U8 0,BL false],BL false],[],G,O,⟨⟨_,⟨_,_,_,_,O,O,O,.inl ⟨Yj,O⟩⟩,.conv (.same O)⟩,⟨_,O,.conv (.same O)⟩,G⟩,O,congrArg (fun r:Box×Bool=>(.tup [.agg (Box.cs r.1),BL r.2]:AV)) (Option.some.inj h)⟩)
 ·
  refine Gr (hK4 (Jr fun hK7=>(JLm (E8 boxes) O (JLm (I64 r3) O ?_))))
  obtain⟨m9,y8,hm9,hy8,h⟩:=Y9 h
  refine JLh (Eh y8) (Hf (f:=Box.av) (xs:=boxes) (y:=y8) O O O Y8 hy8 hm9) O (JLh (.agg (Box.cs y8)) (Gi Yj O O O) O (Ho (u:=.junk) (Hc (u:=.agg (Box.cs y8)) (ds:=(Box.cs y8)) Rq O O O O O O O O) (JLm (BL true) O (G5 (hK7 (Gq (⟨[.agg (Box.cs y8),BL true],[],G,O,⟨⟨_,⟨_,_,_,_,O,O,O,.inl ⟨Yj,O⟩⟩,.conv (.same O)⟩,⟨_,O,.conv (.same O)⟩,G⟩,O,congrArg (fun r:Box×Bool=>(.tup [.agg (Box.cs r.1),BL r.2]:AV)) (Option.some.inj h)⟩)))))))

def G64 (boxes:List Box) (id_:Int):Option (Box×Bool):=
 bnd (G38 boxes id_) fun r3=>
 some (r3.1,(r3.2&&((decide (r3.1.Size=20))||(decide (r3.1.Size=40)))))
theorem H55 (boxes:List Box) (id_:Int) (r:Box×Bool) (h:G64 boxes id_=some r):Pure Eo 45 [E8 boxes,I64 id_] (·=.tup [.agg (Box.cs r.1),BL r.2]):=by
 unfold G64 at h
 refine Gy [.cell 4 60,.tmp 5] Tryz.func45 O O (Jr fun hK1=>(JLh (.ptr 1091 0) (G58 1091 [I64 0,ST ByteArray.empty,U8 0,BL false,I64 0,I64 0,I64 0,U8 0,BL false] [E0,.string ByteArray.empty,.int .u8 0,.bool false,E0,E0,E0,.int .u8 0,.bool false] G5c ⟨.inl O,.inl O,.inl O,.inl O,.inl O,.inl O,.inl O,.inl O,.inl O,G⟩ O O) O (JLm (BL false) O (G5 (hK1 (Jr fun hK2=>(JLm (E8 boxes) O (JLm (I64 id_) O ?_))))))))
 obtain⟨r3,hr3,h⟩:=Ga h
 refine JLh (.tup [.agg (Box.cs r3.1),BL r3.2]) (Gs O (Gc4 boxes id_ r3 hr3) H64 ⟨O,O,O,O,G⟩) O (JLm (.tup [.agg (Box.cs r3.1),BL r3.2]) O (JLh (.agg (Box.cs r3.1)) (Gz O O O) O (JLh (BL r3.2) (Gz O O O) O (JLh (.ptr 1092 0) (Hp 1092 9 Qt O O) O (Ho (u:=.junk) (Hc (u:=.agg (Box.cs r3.1)) (ds:=(Box.cs r3.1)) Rq O O O O O O O O) (JLm (BL r3.2) O (G5 (hK2 (Gm [(4,.ptr 1091 0),(6,Eh r3.1),(7,BL r3.2)] [(1091,.box 60 [I64 0,ST ByteArray.empty,U8 0,BL false,I64 0,I64 0,I64 0,U8 0,BL false])] 1092 rfl rfl rfl ⟨⟨_,rfl,.boxEq rfl rfl⟩,G⟩ rfl (by exact⟨.conv (.same rfl),.ptr,.conv (.same rfl),G⟩) ?_)))))))))
 refine Js fun hK4=>Qc (l':=[(4,.ptr 1091 0),(6,Eh r3.1),(7,BL r3.2)]) (L':=[(1091,.box 60 [I64 0,ST ByteArray.empty,U8 0,BL false,I64 0,I64 0,I64 0,U8 0,BL false])]) ⟨(.sm O O),⟨⟨_,rfl,.boxL rfl (.sm O O)⟩,G⟩,rfl⟩ (J4 [12] [0,0,0,0,0,0,0,0,0,0,0,0,0,1] [0,0,0,0,0,0,0,1,1,1,1,1,0,1] [[(1091,.box 60 [I64 0,ST ByteArray.empty,U8 0,BL false,I64 0,I64 0,I64 0,U8 0,BL false])],((1091,.box 60 (Box.cs r3.1))::[(1091,.box 60 [I64 0,ST ByteArray.empty,U8 0,BL false,I64 0,I64 0,I64 0,U8 0,BL false])])] J0 (by kernel_rfl) rfl rfl ?_)
 refine Gd (u:=.agg (Box.cs r3.1)) O O ⟨Ge (Gi Yj O O O) O,G⟩ (Gd (u:=BL r3.2) O O ⟨Ge (G6 O O) O,G⟩ (Gd (u:=BL r3.2) O O ⟨Ge (G6 O O) O,G⟩ (Gd (u:=.opt r3.2 (.dptr ((Box.cs r3.1).drop 2))) O O ⟨H6 [] O O O .sct G (fun hc=>G9 Rx O O O) O,G⟩ (Gd (u:=.opt r3.2 (U8 r3.1.Size)) O O ⟨H6 [(17,.dptr ((Box.cs r3.1).drop 2))] O O O .sct ⟨.all id,G⟩ (fun hc=>Gg Hn O O O) O,G⟩ (Gd (u:=.opt r3.2 (BL (decide (r3.1.Size=20)))) O O ⟨H6 [(18,U8 r3.1.Size)] O O O .sct ⟨.all id,G⟩ (fun hc=>Q0 O O O) O,G⟩ (Gd (u:=.opt r3.2 (BL (decide (r3.1.Size=20)))) O O ⟨H6 [(19,BL (decide (r3.1.Size=20)))] O O O .sct ⟨.all id,G⟩ (fun hc=>G6 O O) O,G⟩ (Gd (u:=.opt (r3.2&&!(decide (r3.1.Size=20))) (.dptr ((Box.cs r3.1).drop 2))) O O ⟨H6 [] O O O .optf G (fun hc=>G9 Rx O O O) O,H6 [] O O O .optf G (fun hc=>G9 Rx O O O) O,G⟩ (Gd (u:=.opt (r3.2&&!(decide (r3.1.Size=20))) (U8 r3.1.Size)) O O ⟨H6 [(21,.dptr ((Box.cs r3.1).drop 2))] O O O .optf ⟨.all id,G⟩ (fun hc=>Gg Hn O O O) O,H6 [(21,.dptr ((Box.cs r3.1).drop 2))] O O O .optf ⟨.all id,G⟩ (fun hc=>Gg Hn O O O) O,G⟩ (Gd (u:=.opt (r3.2&&!(decide (r3.1.Size=20))) (BL (decide (r3.1.Size=40)))) O O ⟨H6 [(22,U8 r3.1.Size)] O O O .optf ⟨.all id,G⟩ (fun hc=>Q0 O O O) O,H6 [(22,U8 r3.1.Size)] O O O .optf ⟨.all id,G⟩ (fun hc=>Q0 O O O) O,G⟩ (Gd (u:=.opt r3.2 (BL ((decide (r3.1.Size=20))||(decide (r3.1.Size=40))))) O O ⟨H6 [(20,BL (decide (r3.1.Size=20))),(23,_)] O O O .sct ⟨.all id,.part,G⟩ (fun hc=>G28 O O O O) O,H6 [(20,BL (decide (r3.1.Size=20))),(23,_)] O O O .sct ⟨.all id,.part,G⟩ (fun hc=>G28 O O O O) O,G⟩ (Gd (u:=BL (r3.2&&((decide (r3.1.Size=20))||(decide (r3.1.Size=40))))) O O ⟨Ge (Rm O O O O) O,Ge (Rm O O O O) O,G⟩ (H85 (u:=.junk) O O O O (Ge (Hc (u:=.agg (Box.cs r3.1)) (ds:=(Box.cs r3.1)) Rq O O O O O O O O) O) (Gd (u:=BL (r3.2&&((decide (r3.1.Size=20))||(decide (r3.1.Size=40))))) O O ⟨Ge (G7 O O) O,G⟩ (Qw ?_))))))))))))))
 refine hK4 (Gq (⟨[.agg (Box.cs r3.1),BL (r3.2&&((decide (r3.1.Size=20))||(decide (r3.1.Size=40))))],[],G,O,⟨⟨_,⟨_,_,_,_,O,O,O,.inl ⟨Yj,O⟩⟩,.conv (.same O)⟩,⟨_,O,.conv (.same O)⟩,G⟩,O,congrArg (fun r:Box×Bool=>(.tup [.agg (Box.cs r.1),BL r.2]:AV)) (Option.some.inj h)⟩))

def J00 (m:Gb):Option Bool:=
 some true
theorem Yo (m:Gb) (r:Bool) (h:J00 m=some r):Pure Eo 34 [.dptr (Gb.cs m)] (·=BL r):=by
 unfold J00 at h
 refine Gy [.tmp 2] Tryz.func34 O O (Jr fun hK1=>(JLm (BL false) O (G5 (hK1 ?_))))
 refine Jr fun hK2=>(JLm (Ef m) O (JLh (BL true) (Yaf H59 O O) O (JLm (BL true) O (JLo (Ef m) [] O .sct G (fun hc=>G6 O O) O (JLo (Ef m) [6] O .sct ⟨Ua,G⟩ (fun hc=>G68 O O) O (JLo (.dptr [DM Slot.kv Box.av m.on,DM (fun n:Int=>Value.int .i64 n) Box.av m.quay,DM (fun n:Int=>Value.int .i64 n) I64 m.open_,I64 m.lifts]) [7] O .sct ⟨Ua,G⟩ (fun hc=>G9 Ye O O O) O (JLo (DM Slot.kv Box.av m.on) [8] O .sct ⟨Ua,G⟩ (fun hc=>Gg Yh O O O) O (JLo (BL true) [9] O .sct ⟨Ua,G⟩ (fun hc=>Yae Rab O O) O (JLh (BL true) (Rm (b:=true) (d:=true) O O O O) O (JLm (BL true) O (G5 (hK2 ?_))))))))))))
 refine Gq (fin1 BL h)

def H1f (m:Gb) (is:Slot→Option Bool) (Rp:Bool→Prop):Option Prop:=
 Hfb (fun(x10:Slot×Box) (s10:Unit) nx10=>
  bnd (is x10.1) fun r15=>
  bif r15 then
  (lft (some (Rp true)))
  else
  (nx10 ()))
 (fun(s10:Unit)=>
  some (Rp false)) (Gt.He m.on) ()
theorem Q2d (m:Gb) (is:Slot→Option Bool) (is_f:FuncId) (is_c:List AV) (is_B:H7 Eo is_f=true) (is_d:Qy (fun _=>false) is_c=true) (is_w:∀ a0 q,is a0=some q→Pure Eo is_f ([.agg [I64 a0.G2,I64 a0.Tier,U8 a0.Half]]++is_c) (·=BL q)) (Rp:Bool→Prop) (p:Prop) (h:H1f m is Rp=some p) (hp:p):Pure Eo 78 [.dptr (Gb.cs m),.fn is_f is_c] (fun av=>∃ r,Rp r∧av=BL r):=by
 unfold H1f at h
 refine Gy [.tmp 4] Tryz.func78 O O (Jr fun hK1=>(JLm (BL false) O (G5 (hK1 (Js fun hK2=>Jr fun hK3=>(JLm (Ef m) O (JLh (Ef m) (G68 O O) O (JLh (.dptr ((Gb.cs m).drop 13)) (G9 Ye O O O) O (JLh (DM Slot.kv Box.av m.on) (Gg Yh O O O) O (JLh (.it 1137) (H87 1137 (kv:=Slot.kv) (av:=Box.av) (m:=m.on) O O .data O G4a) O (G5 (hK3 (Gw ?_)))))))))))))
 obtain⟨b10,kx10,hb10,hkx10,h⟩:=H28 h
 refine J30 (m.on.l.length) (fun i10 (s10:Unit)=>Gc8 b10 kx10 (Gt.l m.on) i10 s10) (fun i10 s10=>[(1,.fn is_f is_c),(10,.it 1137)]) (fun i10 s10=>[(1137,.iter (DM Slot.kv Box.av m.on) m.on.l.length i10)]) () (Gc8.start h hp) ⟨⟨.same (Jq _ _ is_d),.same O,G⟩,⟨⟨_,O,.iter O⟩,G⟩,O⟩ ?_
 clear h hp
 intro i10 s10 hi10 K10 e10
 refine Jr fun hK11=>Zq O O O (Hf8 (kv:=Slot.kv) (av:=Box.av) (m:=m.on) (fun _=>O) O O O .data) ?_
 intro u_ L_ hn_
 rcases hn_ with ⟨q10,x10,he10,hs10,rfl,rfl⟩ | ⟨ha10,rfl,rfl⟩
 ·
  obtain⟨o10,h,ho1_10,ho2_10⟩:=hi10.step he10 hs10
  replace h:=Q9b hb10 h
  refine JLh (BL true) (Gz O O O) O (G5 (hK11 (Js fun hK12=>J31 O (Gr (hK12 (Gw (Jr fun hK13=>(JLh (.tup [.agg (Slot.cs x10.1),.agg (Box.cs x10.2)]) (J85 (kv:=Slot.kv) (av:=Box.av) (m:=m.on) (q:=q10) (seen:=i10) (e:=x10) (fun _=>O) O O O .data he10) O (JLh (.agg (Slot.cs x10.1)) (Gz O O O) O (JLh (.ptr 1136 0) (Hp 1136 3 Z4 O O) O (Ho (u:=.junk) (Hc (u:=.agg (Slot.cs x10.1)) (ds:=[I64 x10.1.G2,I64 x10.1.Tier,U8 x10.1.Half]) Zr O O O O O O O O) (G5 (hK13 (Gm [(1,.fn is_f is_c),(5,Ek x10.1),(10,.it 1137)] [(1137,.iter (DM Slot.kv Box.av m.on) m.on.l.length (i10++[q10]))] 1136 rfl rfl rfl ⟨⟨_,rfl,.iter rfl⟩,G⟩ rfl (by exact⟨.conv (.same (Jq _ _ is_d)),.ptr,.conv (.same rfl),G⟩) ?_))))))))))))))
  refine Jr fun hK14=>(JLm (.fn is_f is_c) O (JLh (.agg (Slot.cs x10.1)) (Gi Hu O O O) O ?_))
  obtain⟨r15,hr15,h⟩:=Ga h
  refine JLh (BL r15) (G40 (args:=[.agg (Slot.cs x10.1)]) (caps:=is_c) O O (is_w x10.1 _ hr15) is_B ⟨O,O,G⟩ is_d) O (G5 (hK14 (JCc O h (fun h hb=>?_) (fun h hb=>?_))))
  ·
   refine Jr fun hK16=>(JLm (BL true) O (G5 (hK16 (Gq ?_))))
   obtain⟨y_,hy_,hl_⟩:=Y21 h
   exact⟨[BL true],[],G,O,⟨⟨_,O,.conv (.same O)⟩,G⟩,O,true,Eq.mpr (Option.some.inj hl_) (ho1_10 y_ hy_),O⟩
  ·
   refine Gr (e10 _ _ (i10++[q10]) () (ho2_10 _ (Option.some.inj h).symm) (Ga4 (List.getElem?_eq_some_iff.1 he10).1 hs10) ⟨⟨.same (Jq _ _ is_d),.same O,G⟩,⟨⟨_,O,.iter O⟩,G⟩,O⟩)
 ·
  obtain⟨p_,h,hp⟩:=hi10.done ha10
  replace h:=app1 hkx10 h
  refine JLh (BL false) (Gz O O O) O (G5 (hK11 (Js fun hK17=>G27 O (Je (hK2 (Jr fun hK18=>(JLm (BL false) O (G5 (hK18 (Gq (⟨[BL false],[],G,O,⟨⟨_,O,.conv (.same O)⟩,G⟩,O,false,Eq.mpr (Option.some.inj h) hp,O⟩)))))))))))
theorem Q2e (S_:(Gb)→(Slot→Option Bool)→Option Bool) (hS_:∀ m is r,S_ m is=some r→∃ p:Prop,H1f m is (fun r_=>r_=r)=some p∧p) (m:Gb) (is:Slot→Option Bool) (is_f:FuncId) (is_c:List AV) (is_B:H7 Eo is_f=true) (is_d:Qy (fun _=>false) is_c=true) (is_w:∀ a0 q,is a0=some q→Pure Eo is_f ([.agg [I64 a0.G2,I64 a0.Tier,U8 a0.Half]]++is_c) (·=BL q)) (r:Bool) (h:S_ m is=some r):Pure Eo 78 [.dptr (Gb.cs m),.fn is_f is_c] (·=BL r):=by
 obtain⟨p,h1,h2⟩:=hS_ m is r h
 exact(Q2d m is is_f is_c is_B is_d is_w _ p h1 h2).monoP (fun av hh=>by obtain⟨r_,rfl,ha⟩:=hh; exact ha)

def G6e (r_:Int) (p1:G2):Option Bool:=
 some (decide (r_=p1.Row))
theorem Jb8 (r_:Int) (p1:G2) (r:Bool) (h:G6e r_ p1=some r):Pure Eo 147 [I64 r_,Ej p1] (·=BL r):=by
 unfold G6e at h
 refine Gy [.tmp 3] Tryz.func147 O O (Jr fun hK1=>(JLm (BL false) O (G5 (hK1 (Jr fun hK2=>(JLm (I64 r_) O (JLh (.dptr ((G2.cs p1).drop 1)) (G9 G72 O O O) O (JLh (I64 p1.Row) (Gg Gc O O O) O (JLh (BL (decide (r_=p1.Row))) (Q0 O O O) O (JLm (BL (decide (r_=p1.Row))) O (G5 (hK2 (Gq (fin1 BL h))))))))))))))

def G3d (l:List Int) (wanted:Int→Option Bool):Option (List Int):=
 each (fun y21 i21 (s21:(List Int)) nx21=>
  jp (fun kj24=>
   bnd (wanted y21) fun r27=>
   bif r27 then
   (need (decide ((s21.length+[(i21:Int)].length)*8≤140737488355328∧s21.length+[(i21:Int)].length≤maxLen)) <|
    kj24 (s21++[(i21:Int)]))
   else
   (kj24 s21)) fun(j24:(List Int))=>
  nx21 j24)
 (fun(s21:(List Int))=>
  some s21) l 0 []
theorem J4f (l:List Int) (wanted:Int→Option Bool) (wanted_f:FuncId) (wanted_c:List AV) (wanted_B:H7 Eo wanted_f=true) (wanted_d:Qy (fun _=>false) wanted_c=true) (wanted_w:∀ a0 q,wanted a0=some q→Pure Eo wanted_f ([I64 a0]++wanted_c) (·=BL q)) (r:(List Int)) (h:G3d l wanted=some r):Pure Eo 146 [E2 l,.fn wanted_f wanted_c] (·=E2 r):=by
 unfold G3d at h
 refine Gy [.tmp 4] Tryz.func146 O O (Jr fun hK1=>(JLh (E2 ([]:List Int)) (Hk 1 O O) O (G5 (hK1 (Jr fun hK2=>(JLh (OW 1187 1 I64 ([]:List Int)) (G57 1187 3 1 O O O) O (G5 (hK2 (Js fun hK3=>Jr fun hK4=>(JLm (E2 l) O (JLl Gx O O O fun hm9=>(JLm (I64 0) O (G5 (hK4 (Gw ?_)))))))))))))))
 obtain⟨b21,kx21,hb21,hkx21,h⟩:=Jx h
 refine Jb (fun i21 (s21:(List Int))=>each b21 kx21 (List.drop i21 l) i21 s21=some r) (fun i21 s21=>[(1,.fn wanted_f wanted_c),(5,OW 1187 1 I64 s21),(8,E2 l),(9,En l.length),(10,En i21)]) (fun i21 s21=>[(1187,.spare 3 1 s21.length s21.length)]) (fun i21=>l.length - i21) 0 [] h ⟨⟨.same (Jq _ _ wanted_d),.same O,.same O,.same O,.same O,G⟩,⟨⟨_,O,.same⟩,G⟩,O⟩ ?_
 clear h
 intro i21 s21 hi21 K21 e21
 refine Jr fun hK22=>(JLh (BL (decide ((i21:Int) < (l.length:Int)))) (Qg O O O) O (G5 (hK22 (Js fun hK23=>Gn O (fun hb=>?_) (fun hb=>?_)))))
 ·
  have hk21:=Qr hb
  obtain⟨y21,nx21,hy21,hn21,h⟩:=J9 hi21 hk21
  replace h:=G17 hb21 h
  refine Gr (hK23 ?_)
  obtain⟨kj24,hkj24,h⟩:=Yu h
  refine Rg (fun j24:(List Int)=>kj24 j24=some r) (fun j24=>[(1,.fn wanted_f wanted_c),(5,OW 1187 1 I64 j24),(8,E2 l),(9,En l.length),(10,En i21)]) (fun j24=>[(1187,.spare 3 1 j24.length j24.length)]) (fun Kj24 ej24=>?_) ?_
  ·
   refine Gw (Jr fun hK25=>(JLm (En i21) O (JLh (.dptr [I64 y21]) (Hf (f:=I64) (xs:=l) (y:=y21) O O O Gx hy21 O) O (JLh (I64 y21) (Gg Gc O O O) O (JLm (En i21) O (JLm (I64 y21) O (G5 (hK25 (Jr fun hK26=>(JLm (.fn wanted_f wanted_c) O (JLm (I64 y21) O ?_)))))))))))
   obtain⟨r27,hr27,h⟩:=Ga h
   refine JLh (BL r27) (G40 (args:=[I64 y21]) (caps:=wanted_c) O O (wanted_w y21 _ hr27) wanted_B ⟨O,O,G⟩ wanted_d) O (G5 (hK26 (JCc O h (fun h hb=>?_) (fun h hb=>?_))))
   ·
    refine G1 (JLm (OW 1187 1 I64 s21) O (JLm (En i21) O (JLh (E2 [(i21:Int)]) (H8 (xs:=[En i21]) O ⟨O,O,G⟩ Gx R5 O O O O) O ?_)))
    obtain⟨ha28,h⟩:=J7 h
    refine JLh (OW 1187 1 I64 (s21++[(i21:Int)])) (Qk (f:=I64) (xs:=s21) (ys:=[(i21:Int)]) O O O O Gx Zt ha28 (fun _=>O) (.inl O) O) O (JLm (OW 1187 1 I64 (s21++[(i21:Int)])) O (G5 (ej24 _ _ (s21++[(i21:Int)]) h ⟨⟨.same (Jq _ _ wanted_d),.same O,.same O,.same O,.same O,G⟩,⟨⟨_,O,.same⟩,G⟩,O⟩)))
   ·
    refine Gr (ej24 _ _ s21 h ⟨⟨.same (Jq _ _ wanted_d),.same O,.same O,.same O,.same O,G⟩,⟨⟨_,O,.same⟩,G⟩,O⟩)
  ·intro j24 h
   replace h:=app1 hkj24 h
   refine G1 (JLh (I64 ((i21+1:Nat):Int)) (Jf (J6 hk21 hm9) O O O) O (JLm (I64 ((i21+1:Nat):Int)) O (G5 (e21 _ _ (i21+1) j24 (app1 hn21 h) (by omega) ⟨⟨.same (Jq _ _ wanted_d),.same rfl,.same rfl,.same rfl,.same rfl,G⟩,⟨⟨_,rfl,.same⟩,G⟩,rfl⟩))))
 ·
  have h:=app1 hkx21 (Ja hi21 (Hs hb))
  refine Je (hK3 (Jr fun hK29=>(JLm (OW 1187 1 I64 s21) O (JLm (OW 1187 1 I64 s21) O (G5 (hK29 (Gq (fin1l (fun r:(List Int)=>(E2 r:AV)) h))))))))

def G7a (x:G8) (c:G2):Option Bool:=
 bnd (bif decide (x.Bay=c.Bay) then G3d x.Rows (fun z0=>G6e z0 c) else some default) fun r3=>
 some ((decide (x.Bay=c.Bay))&&(decide (0 < (r3.length:Int))))
theorem J01 (x:G8) (c:G2) (r:Bool) (h:G7a x c=some r):Pure Eo 108 [.agg [I64 x.Bay,E2 x.Rows],.agg (G2.cs c)] (·=BL r):=by
 unfold G7a at h
 refine Gy [.tmp 4] Tryz.func108 O O (Jr fun hK1=>(JLh (.ptr 1161 0) (Jk (cs:=[I64 x.Bay,E2 x.Rows]) 1161 O O O O O) O (JLh (.ptr 1162 0) (Jk (cs:=(G2.cs c)) 1162 O O O O O) O (JLm (BL false) O (G5 (hK1 (Gm [(2,.dptr [I64 x.Bay,E2 x.Rows]),(3,.ptr 1162 0)] [(1162,.box 58 (G2.cs c))] 1161 rfl rfl rfl ⟨⟨_,rfl,.boxEq rfl rfl⟩,G⟩ rfl (by exact⟨.ptr,.conv (.same rfl),G⟩) ?_)))))))
 refine Gm [(2,.dptr [I64 x.Bay,E2 x.Rows]),(3,Ej c)] [] 1162 rfl rfl rfl G rfl (by exact⟨.conv (.same rfl),.ptr,G⟩) (Jr fun hK2=>(JLh (.dptr [I64 x.Bay,E2 x.Rows]) (G9 Gec O O O) O (JLh (I64 x.Bay) (Gg Gc O O O) O (JLh (Ej c) (G9 G73 O O O) O (JLh (I64 c.Bay) (Gg Gc O O O) O (JLh (BL (decide (x.Bay=c.Bay))) (Q0 O O O) O (JLm (BL (decide (x.Bay=c.Bay))) O (JLo (.dptr [E2 x.Rows]) [] O .sct G (fun hc=>G9 G02 O O O) O (JLo (E2 x.Rows) [11] O .sct ⟨Ua,G⟩ (fun hc=>Gg Yi O O O) O (JLo (.fn 147 [.dptr (G2.cs c)]) [] O .sct G (fun hc=>Jy (cs:=[.dptr (G2.cs c)]) O O) O ?_))))))))))
 obtain⟨r3,hr3,h⟩:=Ga h
 refine JLo (E2 r3) [12,13] O .sct ⟨Ua,Ua,G⟩ (fun hc=>Gs (args:=[E2 x.Rows,.fn 147 [.dptr (G2.cs c)]]) O (J4f x.Rows (fun z0=>G6e z0 c) 147 [.dptr (G2.cs c)] R50 O (fun z0 q hq=>Jb8 z0 c q hq) r3 (H1 hc hr3)) R51 ⟨O,O,O,O,G⟩) O (JLo (En r3.length) [14] O .sct ⟨Ua,G⟩ (fun hc=>G1a (f:=I64) (xs:=r3) Gx O O) O (JLo (BL (decide (0 < (r3.length:Int)))) [15] O .sct ⟨Ua,G⟩ (fun hc=>Gb9 O O O) O (JLh (BL ((decide (x.Bay=c.Bay))&&(decide (0 < (r3.length:Int))))) (Rm O O O O) O (JLm (BL ((decide (x.Bay=c.Bay))&&(decide (0 < (r3.length:Int))))) O (G5 (hK2 (Gq (fin1 BL h))))))))

def G21 (x:G8) (p1:Gk) (p2:Int):Option Bool:=
 Yy p1.Columns p2 fun y3=>
 bnd (G7a x y3) fun r5=>
 some r5
theorem J81 (x:G8) (p1:Gk) (p2:Int) (r:Bool) (h:G21 x p1 p2=some r):Pure Eo 107 [.agg [I64 x.Bay,E2 x.Rows],Eg p1,.dptr [I64 p2]] (·=BL r):=by
 unfold G21 at h
 refine Gy [.tmp 4] Tryz.func107 O O (Jr fun hK1=>(JLh (.ptr 1160 0) (Jk (cs:=[I64 x.Bay,E2 x.Rows]) 1160 O O O O O) O (JLm (BL false) O (G5 (hK1 (Gm [(1,Eg p1),(2,.dptr [I64 p2]),(3,.dptr [I64 x.Bay,E2 x.Rows])] [] 1160 rfl rfl rfl G rfl (by exact⟨.conv (.same rfl),.conv (.same rfl),.ptr,G⟩) (Js fun hK2=>?_)))))))
 obtain⟨m4,y3,hm4,hy3,h⟩:=Y9 h
 obtain⟨r5,hr5,h⟩:=Ga h
 refine JC_d0 J0 (by kernel_rfl) (Dq (.agg [I64 x.Bay,E2 x.Rows]) (Gi H66 O O O) O (Dq (Eg p1) (G9 Hv O O O) O (Dq (E1 p1.Columns) (Gg J8 O O O) O (Dq (I64 p2) (Gg Gc O O O) O (Dq (Ej y3) (Hf (f:=G2.av) (xs:=p1.Columns) (y:=y3) O O O Ht hy3 hm4) O (Dq (.agg (G2.cs y3)) (Gi G75 O O O) O (Dq (BL r5) (Gs (args:=[.agg [I64 x.Bay,E2 x.Rows],.agg (G2.cs y3)]) O (J01 x y3 r5 hr5) Jfd ⟨O,O,O,O,G⟩) O (Dq (BL r5) (G7 O O) O (Dnil (hK2 (Gq (fin1 BL h))))))))))))

def Zh (l:List G8) (wanted:G8→Option Bool):Option (List Int):=
 each (fun y21 i21 (s21:(List Int)) nx21=>
  jp (fun kj24=>
   bnd (wanted y21) fun r27=>
   bif r27 then
   (need (decide ((s21.length+[(i21:Int)].length)*8≤140737488355328∧s21.length+[(i21:Int)].length≤maxLen)) <|
    kj24 (s21++[(i21:Int)]))
   else
   (kj24 s21)) fun(j24:(List Int))=>
  nx21 j24)
 (fun(s21:(List Int))=>
  some s21) l 0 []
theorem Hac (l:List G8) (wanted:G8→Option Bool) (wanted_f:FuncId) (wanted_c:List AV) (wanted_B:H7 Eo wanted_f=true) (wanted_d:Qy (fun _=>false) wanted_c=true) (wanted_w:∀ a0 q,wanted a0=some q→Pure Eo wanted_f ([.agg [I64 a0.Bay,E2 a0.Rows]]++wanted_c) (·=BL q)) (r:(List Int)) (h:Zh l wanted=some r):Pure Eo 106 [E7 l,.fn wanted_f wanted_c] (·=E2 r):=by
 unfold Zh at h
 refine Gy [.tmp 4] Tryz.func106 O O (Jr fun hK1=>(JLh (E2 ([]:List Int)) (Hk 1 O O) O (G5 (hK1 (Jr fun hK2=>(JLh (OW 1158 1 I64 ([]:List Int)) (G57 1158 3 1 O O O) O (G5 (hK2 (Js fun hK3=>Jr fun hK4=>(JLm (E7 l) O (JLl Ji O O O fun hm9=>(JLm (I64 0) O (G5 (hK4 (Gw ?_)))))))))))))))
 obtain⟨b21,kx21,hb21,hkx21,h⟩:=Jx h
 refine Jb (fun i21 (s21:(List Int))=>each b21 kx21 (List.drop i21 l) i21 s21=some r) (fun i21 s21=>[(1,.fn wanted_f wanted_c),(5,OW 1158 1 I64 s21),(8,E7 l),(9,En l.length),(10,En i21)]) (fun i21 s21=>[(1158,.spare 3 1 s21.length s21.length)]) (fun i21=>l.length - i21) 0 [] h ⟨⟨.same (Jq _ _ wanted_d),.same O,.same O,.same O,.same O,G⟩,⟨⟨_,O,.same⟩,G⟩,O⟩ ?_
 clear h
 intro i21 s21 hi21 K21 e21
 refine Jr fun hK22=>(JLh (BL (decide ((i21:Int) < (l.length:Int)))) (Qg O O O) O (G5 (hK22 (Js fun hK23=>Gn O (fun hb=>?_) (fun hb=>?_)))))
 ·
  have hk21:=Qr hb
  obtain⟨y21,nx21,hy21,hn21,h⟩:=J9 hi21 hk21
  replace h:=G17 hb21 h
  refine Gr (hK23 ?_)
  obtain⟨kj24,hkj24,h⟩:=Yu h
  refine Rg (fun j24:(List Int)=>kj24 j24=some r) (fun j24=>[(1,.fn wanted_f wanted_c),(5,OW 1158 1 I64 j24),(8,E7 l),(9,En l.length),(10,En i21)]) (fun j24=>[(1158,.spare 3 1 j24.length j24.length)]) (fun Kj24 ej24=>?_) ?_
  ·
   refine Gw (Jr fun hK25=>(JLm (En i21) O (JLh (.dptr [I64 y21.Bay,E2 y21.Rows]) (Hf (f:=G8.av) (xs:=l) (y:=y21) O O O Ji hy21 O) O (JLh (.agg [I64 y21.Bay,E2 y21.Rows]) (Gi H66 O O O) O (JLh (.ptr 1159 0) (Hp 1159 2 Ge9 O O) O (JLm (En i21) O (Ho (u:=.junk) (Hc (u:=.agg [I64 y21.Bay,E2 y21.Rows]) (ds:=[I64 y21.Bay,E2 y21.Rows]) Jf4 O O O O O O O O) (G5 (hK25 ?_)))))))))
   refine Gm [(1,.fn wanted_f wanted_c),(5,OW 1158 1 I64 s21),(6,En i21),(7,.dptr [I64 y21.Bay,E2 y21.Rows]),(8,E7 l),(9,En l.length),(10,En i21)] [(1158,.spare 3 1 s21.length s21.length)] 1159 rfl rfl rfl ⟨⟨_,rfl,.same⟩,G⟩ rfl (by exact⟨.conv (.same (Jq _ _ wanted_d)),.conv (.same rfl),.conv (.same rfl),.ptr,.conv (.same rfl),.conv (.same rfl),.conv (.same rfl),G⟩) (Jr fun hK26=>(JLm (.fn wanted_f wanted_c) O (JLh (.agg [I64 y21.Bay,E2 y21.Rows]) (Gi H66 O O O) O ?_)))
   obtain⟨r27,hr27,h⟩:=Ga h
   refine JLh (BL r27) (G40 (args:=[.agg [I64 y21.Bay,E2 y21.Rows]]) (caps:=wanted_c) O O (wanted_w y21 _ hr27) wanted_B ⟨O,O,G⟩ wanted_d) O (G5 (hK26 (JCc O h (fun h hb=>?_) (fun h hb=>?_))))
   ·
    refine G1 (JLm (OW 1158 1 I64 s21) O (JLm (En i21) O (JLh (E2 [(i21:Int)]) (H8 (xs:=[En i21]) O ⟨O,O,G⟩ Gx R5 O O O O) O ?_)))
    obtain⟨ha28,h⟩:=J7 h
    refine JLh (OW 1158 1 I64 (s21++[(i21:Int)])) (Qk (f:=I64) (xs:=s21) (ys:=[(i21:Int)]) O O O O Gx Zt ha28 (fun _=>O) (.inl O) O) O (JLm (OW 1158 1 I64 (s21++[(i21:Int)])) O (G5 (ej24 _ _ (s21++[(i21:Int)]) h ⟨⟨.same (Jq _ _ wanted_d),.same O,.same O,.same O,.same O,G⟩,⟨⟨_,O,.same⟩,G⟩,O⟩)))
   ·
    refine Gr (ej24 _ _ s21 h ⟨⟨.same (Jq _ _ wanted_d),.same O,.same O,.same O,.same O,G⟩,⟨⟨_,O,.same⟩,G⟩,O⟩)
  ·intro j24 h
   replace h:=app1 hkj24 h
   refine G1 (JLh (I64 ((i21+1:Nat):Int)) (Jf (J6 hk21 hm9) O O O) O (JLm (I64 ((i21+1:Nat):Int)) O (G5 (e21 _ _ (i21+1) j24 (app1 hn21 h) (by omega) ⟨⟨.same (Jq _ _ wanted_d),.same rfl,.same rfl,.same rfl,.same rfl,G⟩,⟨⟨_,rfl,.same⟩,G⟩,rfl⟩))))
 ·
  have h:=app1 hkx21 (Ja hi21 (Hs hb))
  refine Je (hK3 (Jr fun hK29=>(JLm (OW 1158 1 I64 s21) O (JLm (OW 1158 1 I64 s21) O (G5 (hK29 (Gq (fin1l (fun r:(List Int)=>(E2 r:AV)) h))))))))

def Yd (s:Gk) (column:Int):Option Int:=
 bif ((decide (column < 0))||(decide ((s.Columns.length:Int)≤column))) then
 (some (-1))
 else
 (bnd (Zh s.Covers (fun z0=>G21 z0 s column)) fun r6=>
  bif decide ((r6.length:Int)=0) then
  (some (-1))
  else
  (Yy r6 0 fun y11=>
   some y11))
theorem G56 (s:Gk) (column:Int) (r:Int) (h:Yd s column=some r):Pure Eo 51 [.agg (Gk.cs s),I64 column] (·=I64 r):=by
 unfold Yd at h
 refine Gy [.tmp 4] Tryz.func51 O O (Jr fun hK1=>(JLh (.ptr 1099 0) (Jk (cs:=(Gk.cs s)) 1099 O O O O O) O (JLh (.ptr 1100 0) (Jk (cs:=[I64 column]) 1100 O O O O O) O (JLm (I64 0) O (G5 (hK1 (Gm [(2,Eg s),(3,.ptr 1100 0)] [(1100,.box 3 [I64 column])] 1099 rfl rfl rfl ⟨⟨_,rfl,.boxEq rfl rfl⟩,G⟩ rfl (by exact⟨.ptr,.conv (.same rfl),G⟩) (Gm [(2,Eg s),(3,.dptr [I64 column])] [] 1100 rfl rfl rfl G rfl (by exact⟨.conv (.same rfl),.ptr,G⟩) (Js fun hK2=>?_)))))))))
 refine Jr fun hK3=>(JLh (I64 column) (Gg Gc O O O) O (JLh (BL (decide (column < 0))) (Qg O O O) O (JLm (BL (decide (column < 0))) O (JLo (I64 column) [] O .scf G (fun hc=>Gg Gc O O O) O (JLo (Eg s) [] O .scf G (fun hc=>G9 Hv O O O) O (JLo (E1 s.Columns) [10] O .scf ⟨Ua,G⟩ (fun hc=>Gg J8 O O O) O (JLo (En s.Columns.length) [11] O .scf ⟨Ua,G⟩ (fun hc=>G1a (f:=G2.av) (xs:=s.Columns) Ht O O) O (JLo (BL (decide ((s.Columns.length:Int)≤column))) [9,12] O .scf ⟨Ua,Ua,G⟩ (fun hc=>Gfb O O O) O (JLh (BL ((decide (column < 0))||(decide ((s.Columns.length:Int)≤column)))) (G28 O O O O) O (G5 (hK3 (JCc O h (fun h hb=>?_) (fun h hb=>?_)))))))))))))
 ·
  refine Jr fun hK4=>(JLm (I64 (-1)) O (G5 (hK4 (Gq (fin1 I64 h)))))
 ·
  refine Gr (hK2 (Jr fun hK5=>(JLh (.dptr ((Gk.cs s).drop 1)) (G9 Jo O O O) O (JLh (E7 s.Covers) (Gg Qa O O O) O (JLh (.fn 107 [.dptr (Gk.cs s),.dptr [I64 column]]) (Jy (cs:=[.dptr (Gk.cs s),.dptr [I64 column]]) O O) O ?_)))))
  obtain⟨r6,hr6,h⟩:=Ga h
  refine JLh (E2 r6) (Gs O (Hac s.Covers (fun z0=>G21 z0 s column) 107 [.dptr (Gk.cs s),.dptr [I64 column]] R60 O (fun z0 q hq=>J81 z0 s column q hq) r6 hr6) R61 ⟨O,O,O,O,G⟩) O (JLm (E2 r6) O (G5 (hK5 (Js fun hK7=>Jr fun hK8=>(JLm (E2 r6) O (JLl Gx O O O fun hm20=>(JLh (BL (decide ((r6.length:Int)=0))) (Q0 O O O) O (G5 (hK8 (JCc O h (fun h hb=>?_) (fun h hb=>?_)))))))))))
  ·
   refine Jr fun hK9=>(JLm (I64 (-1)) O (G5 (hK9 (Gq (fin1 I64 h)))))
  ·
   refine Gr (hK7 (Jr fun hK10=>(JLm (E2 r6) O ?_)))
   obtain⟨m12,y11,hm12,hy11,h⟩:=Y9 h
   refine JLh (.dptr [I64 y11]) (Hf (f:=I64) (xs:=r6) (y:=y11) O O O Gx hy11 hm12) O (JLh (I64 y11) (Gg Gc O O O) O (JLm (I64 y11) O (G5 (hK10 (Gq (fin1 I64 h))))))

def G52 (m:Gb) (x:Slot):Option Bool:=
 bnd (Yd m.ship x.G2) fun r3=>
 bnd (bif decide (0≤r3) then some (Gt.get m.open_ r3 0) else some 0) fun v5=>
 bnd (bif decide (0≤r3) then Yy m.ship.Columns x.G2 some else some default) fun y6=>
 some ((decide (0≤r3))&&((decide (0 < v5))==y6.Deck))
theorem Hc0 (m:Gb) (x:Slot) (r:Bool) (h:G52 m x=some r):Pure Eo 86 [.dptr (Gb.cs m),.agg [I64 x.G2,I64 x.Tier,U8 x.Half]] (·=BL r):=by
 unfold G52 at h
 refine Gy [.tmp 4] Tryz.func86 O O (Jr fun hK1=>(JLh (.ptr 1145 0) (Jk (cs:=[I64 x.G2,I64 x.Tier,U8 x.Half]) 1145 O O O O O) O (JLm (BL false) O (G5 (hK1 (Gm [(0,Ef m),(3,.dptr [I64 x.G2,I64 x.Tier,U8 x.Half])] [] 1145 rfl rfl rfl G rfl (by exact⟨.conv (.same rfl),.ptr,G⟩) (Js fun hK2=>?_)))))))
 obtain⟨r3,hr3,h⟩:=Ga h
 refine JC_d0 J0 (by kernel_rfl) (Dq (Ef m) (G6 O O) O (Dq (Ef m) (G68 O O) O (Dq (Ef m) (G9 Rb O O O) O (Dq (.agg (Gk.cs m.ship)) (Gi Hq O O O) O (Dq (.dptr [I64 x.G2,I64 x.Tier,U8 x.Half]) (G9 Jc O O O) O (Dq (I64 x.G2) (Gg Gc O O O) O (Dq (I64 r3) (Gs (args:=[.agg (Gk.cs m.ship),I64 x.G2]) O (G56 m.ship x.G2 r3 hr3) H63 ⟨O,O,O,O,G⟩) O (Dq (I64 r3) (G7 O O) O (Dnil (hK2 (Js fun hK4=>?_)))))))))))
 obtain⟨v5,hv5,h⟩:=Ga h
 obtain⟨y6,hy6,h⟩:=Ga h
 refine JC_d0 J0 (by kernel_rfl) (Dq (I64 r3) (G6 O O) O (Dq (BL (decide (0≤r3))) (Gfb O O O) O (Dq (BL (decide (0≤r3))) (G6 O O) O (Do (Ef m) [] O .sct G (fun hc=>G6 O O) O (Do (Ef m) [16] O .sct ⟨Ua,G⟩ (fun hc=>G68 O O) O (Do (.dptr ((Gb.cs m).drop 15)) [17] O .sct ⟨Ua,G⟩ (fun hc=>G9 G71 O O O) O (Do (DM (fun n:Int=>Value.int .i64 n) I64 m.open_) [18] O .sct ⟨Ua,G⟩ (fun hc=>Gg G5e O O O) O (Do (I64 r3) [] O .sct G (fun hc=>G6 O O) O (Do (I64 v5) [19,20] O .sct ⟨Ua,Ua,G⟩ (fun hc=>((Option.some.inj (H1 hc hv5)) ▸ J84 (av:=I64) (m:=m.open_) (a:=r3) 0 E0 (fun _=>O) O .data O Q44 H5a H4c O)) O (Do (BL (decide (0 < v5))) [21] O .sct ⟨Ua,G⟩ (fun hc=>Gb9 O O O) O (Do (Ef m) [] O .sct G (fun hc=>G6 O O) O (Do (Ef m) [23] O .sct ⟨Ua,G⟩ (fun hc=>G68 O O) O (Do (Ef m) [24] O .sct ⟨Ua,G⟩ (fun hc=>G9 Rb O O O) O ?_)))))))))))))
 refine Do (Ef m) [25] O .sct ⟨Ua,G⟩ (fun hc=>G9 Hv O O O) O (Do (E1 m.ship.Columns) [26] O .sct ⟨Ua,G⟩ (fun hc=>Gg J8 O O O) O (Do (.dptr [I64 x.G2,I64 x.Tier,U8 x.Half]) [] O .sct G (fun hc=>G9 Jc O O O) O (Do (I64 x.G2) [28] O .sct ⟨Ua,G⟩ (fun hc=>Gg Gc O O O) O (Do (Ej y6) [27,29] O .sct ⟨Ua,Ua,G⟩ (fun hc=>(match Zi (H1 hc hy6) with | ⟨_,hm_,hy_⟩=>Hf (f:=G2.av) (xs:=m.ship.Columns) (y:=y6) O O O Ht hy_ hm_)) O (Do (.dptr ((G2.cs y6).drop 2)) [30] O .sct ⟨Ua,G⟩ (fun hc=>G9 Ys O O O) O (Do (BL y6.Deck) [31] O .sct ⟨Ua,G⟩ (fun hc=>Gg Q1 O O O) O (Do (BL ((decide (0 < v5))==y6.Deck)) [22,32] O .sct ⟨Ua,Ua,G⟩ (fun hc=>Jc4 H5b O O O) O (Dq (BL ((decide (0≤r3))&&((decide (0 < v5))==y6.Deck))) (Rm O O O O) O (Dq (BL ((decide (0≤r3))&&((decide (0 < v5))==y6.Deck))) (G7 O O) O (Dnil ?_))))))))))
 refine hK4 (Gq (fin1 BL h))

def R9 (b:Box):Option Int:=
 bif b.High then
 (some 2896)
 else
 (some 2591)
theorem H82 (b:Box) (r:Int) (h:R9 b=some r):Pure Eo 133 [.agg (Box.cs b)] (·=I64 r):=by
 unfold R9 at h
 refine Gy [.tmp 2] Tryz.func133 O O (Jr fun hK1=>(JLh (.ptr 1183 0) (Jk (cs:=(Box.cs b)) 1183 O O O O O) O (JLm (I64 0) O (G5 (hK1 (Gm [(1,Eh b)] [] 1183 rfl rfl rfl G rfl (by exact⟨.ptr,G⟩) (Js fun hK2=>Jr fun hK3=>(JLh (.dptr ((Box.cs b).drop 3)) (G9 H17 O O O) O (JLh (BL b.High) (Gg Q1 O O O) O (G5 (hK3 (JCc O h (fun h hb=>?_) (fun h hb=>?_)))))))))))))
 ·
  refine Jr fun hK4=>(JLm (I64 2896) O (G5 (hK4 (Gq (fin1 I64 h)))))
 ·
  refine Gr (hK2 (Jr fun hK5=>(JLm (I64 2591) O (G5 (hK5 (Gq (fin1 I64 h)))))))

def G9c (m:Gb) (x:Slot) (b:Box) (half:Int) (Rp:Int→Prop):Option Prop:=
 jp (fun kj4=>
  bif ((decide (x.Half=0))||(decide (x.Half=half))) then
  (bnd (R9 b) fun r6=>
   kj4 r6)
  else
  (kj4 0)) fun(j4:Int)=>
 Hfb (fun(x15:Slot×Box) (s15:Int) nx15=>
  bif ((decide (x15.1.G2=x.G2))&&((decide (x15.1.Half=0))||(decide (x15.1.Half=half)))) then
  (bnd (R9 x15.2) fun r20=>
   chk (s15+r20) fun v21=>
   nx15 v21)
  else
  (nx15 s15))
 (fun(s15:Int)=>
  some (Rp s15)) (Gt.He m.on) j4
theorem Je5 (m:Gb) (x:Slot) (b:Box) (half:Int) (Rp:Int→Prop) (p:Prop) (h:G9c m x b half Rp=some p) (hp:p):Pure Eo 95 [.dptr (Gb.cs m),.agg [I64 x.G2,I64 x.Tier,U8 x.Half],.agg (Box.cs b),U8 half] (fun av=>∃ r,Rp r∧av=I64 r):=by
 unfold G9c at h
 refine Gy [.tmp 8] Tryz.func95 O O (Jr fun hK1=>(JLh (.ptr 1148 0) (Jk (cs:=[I64 x.G2,I64 x.Tier,U8 x.Half]) 1148 O O O O O) O (JLh (.ptr 1149 0) (Jk (cs:=(Box.cs b)) 1149 O O O O O) O (JLm (I64 0) O (G5 (hK1 (Gm [(0,Ef m),(3,U8 half),(5,.dptr [I64 x.G2,I64 x.Tier,U8 x.Half]),(6,.ptr 1149 0)] [(1149,.box 60 (Box.cs b))] 1148 rfl rfl rfl ⟨⟨_,rfl,.boxEq rfl rfl⟩,G⟩ rfl (by repeat' (first | exact .ptr | constructor)) ?_)))))))
 refine Gm [(0,Ef m),(3,U8 half),(5,.dptr [I64 x.G2,I64 x.Tier,U8 x.Half]),(6,Eh b)] [] 1149 rfl rfl rfl G rfl (by repeat' (first | exact .ptr | constructor)) (Jr fun hK2=>(JLm (.fn 133 []) O (G5 (hK2 (Jr fun hK3=>(JLm (I64 0) O (G5 (hK3 ?_))))))))
 obtain⟨kj4,hkj4,h⟩:=Yu h
 refine Rg (fun j4:Int=>kj4 j4=some p) (fun j4=>[(0,Ef m),(3,U8 half),(5,.dptr [I64 x.G2,I64 x.Tier,U8 x.Half]),(9,.fn 133 []),(10,I64 j4)]) (fun j4=>[]) (fun Kj4 ej4=>?_) ?_
 ·
  refine Jr fun hK5=>(JLh (.dptr [U8 x.Half]) (G9 Re O O O) O (JLh (U8 x.Half) (Gg Hn O O O) O (JLh (BL (decide (x.Half=0))) (Q0 O O O) O (JLm (BL (decide (x.Half=0))) O (JLo (.dptr [U8 x.Half]) [] O .scf G (fun hc=>G9 Re O O O) O (JLo (U8 x.Half) [17] O .scf ⟨Ua,G⟩ (fun hc=>Gg Hn O O O) O (JLo (U8 half) [] O .scf G (fun hc=>G6 O O) O (JLo (BL (decide (x.Half=half))) [18,19] O .scf ⟨Ua,Ua,G⟩ (fun hc=>Q0 O O O) O (JLh (BL ((decide (x.Half=0))||(decide (x.Half=half)))) (G28 O O O O) O (G5 (hK5 (JCc O h (fun h hb=>?_) (fun h hb=>?_)))))))))))))
  ·
   refine G1 (JLm (.fn 133 []) O (JLh (.agg (Box.cs b)) (Gi Yj O O O) O ?_))
   obtain⟨r6,hr6,h⟩:=Ga h
   refine JLh (I64 r6) (G40 (args:=[.agg (Box.cs b)]) (caps:=[]) O O (H82 b r6 hr6) Jf7 ⟨O,O,G⟩ O) O (JLm (I64 r6) O (G5 (ej4 _ _ r6 h ⟨(.sm O O),G,rfl⟩)))
  ·
   refine Gr (ej4 _ _ 0 h ⟨(.sm O O),G,rfl⟩)
 ·intro j4 h
  replace h:=app1 hkj4 h
  refine Js fun hK7=>Jr fun hK8=>(JLm (Ef m) O (JLh (Ef m) (G68 O O) O (JLh (.dptr ((Gb.cs m).drop 13)) (G9 Ye O O O) O (JLh (DM Slot.kv Box.av m.on) (Gg Yh O O O) O (JLh (.it 1152) (H87 1152 (kv:=Slot.kv) (av:=Box.av) (m:=m.on) O O .data O G4a) O (G5 (hK8 (Gw ?_))))))))
  obtain⟨b15,kx15,hb15,hkx15,h⟩:=H28 h
  refine J30 (m.on.l.length) (fun i15 (s15:Int)=>Gc8 b15 kx15 (Gt.l m.on) i15 s15) (fun i15 s15=>[(3,U8 half),(5,.dptr [I64 x.G2,I64 x.Tier,U8 x.Half]),(9,.fn 133 []),(10,I64 s15),(29,.it 1152)]) (fun i15 s15=>[(1152,.iter (DM Slot.kv Box.av m.on) m.on.l.length i15)]) j4 (Gc8.start h hp) ⟨(.sm O O),⟨⟨_,rfl,.iter rfl⟩,G⟩,rfl⟩ ?_
  clear h hp
  intro i15 s15 hi15 K15 e15
  refine Jr fun hK16=>Zq O O O (Hf8 (kv:=Slot.kv) (av:=Box.av) (m:=m.on) (fun _=>O) O O O .data) ?_
  intro u_ L_ hn_
  rcases hn_ with ⟨q15,x15,he15,hs15,rfl,rfl⟩ | ⟨ha15,rfl,rfl⟩
  ·
   obtain⟨o15,h,ho1_15,ho2_15⟩:=hi15.step he15 hs15
   replace h:=Q9b hb15 h
   refine JLh (BL true) (Gz O O O) O (G5 (hK16 (Js fun hK17=>J31 O (Gr (hK17 (Gw ?_))))))
   refine Jr fun hK18=>(JLh (.tup [.agg (Slot.cs x15.1),.agg (Box.cs x15.2)]) (J85 (kv:=Slot.kv) (av:=Box.av) (m:=m.on) (q:=q15) (seen:=i15) (e:=x15) (fun _=>O) O O O .data he15) O (JLh (.agg (Slot.cs x15.1)) (Gz O O O) O (JLh (.agg (Box.cs x15.2)) (Gz O O O) O (JLh (.ptr 1150 0) (Hp 1150 3 Z4 O O) O (JLh (.ptr 1151 0) (Hp 1151 9 Qt O O) O (Ho (u:=.junk) (Hc (u:=.agg (Slot.cs x15.1)) (ds:=[I64 x15.1.G2,I64 x15.1.Tier,U8 x15.1.Half]) Zr O O O O O O O O) (Ho (u:=.junk) (Hc (u:=.agg (Box.cs x15.2)) (ds:=(Box.cs x15.2)) Rq O O O O O O O O) (G5 (hK18 ?_)))))))))
   refine Gm [(3,U8 half),(5,.dptr [I64 x.G2,I64 x.Tier,U8 x.Half]),(9,.fn 133 []),(10,I64 s15),(11,Ek x15.1),(12,.ptr 1151 0),(29,.it 1152)] [(1152,.iter (DM Slot.kv Box.av m.on) m.on.l.length (i15++[q15])),(1151,.box 60 (Box.cs x15.2))] 1150 rfl rfl rfl ⟨⟨_,rfl,.iter rfl⟩,⟨_,rfl,.boxEq rfl rfl⟩,G⟩ rfl (by repeat' (first | exact .ptr | constructor)) ?_
   refine Gm [(3,U8 half),(5,.dptr [I64 x.G2,I64 x.Tier,U8 x.Half]),(9,.fn 133 []),(10,I64 s15),(11,Ek x15.1),(12,Eh x15.2),(29,.it 1152)] [(1152,.iter (DM Slot.kv Box.av m.on) m.on.l.length (i15++[q15]))] 1151 rfl rfl rfl ⟨⟨_,rfl,.iter rfl⟩,G⟩ rfl (by repeat' (first | exact .ptr | constructor)) ?_
   refine Jr fun hK19=>(JLh (Ek x15.1) (G9 Jc O O O) O (JLh (I64 x15.1.G2) (Gg Gc O O O) O (JLh (.dptr [I64 x.G2,I64 x.Tier,U8 x.Half]) (G9 Jc O O O) O (JLh (I64 x.G2) (Gg Gc O O O) O (JLh (BL (decide (x15.1.G2=x.G2))) (Q0 O O O) O (JLm (BL (decide (x15.1.G2=x.G2))) O (JLo (.dptr [U8 x15.1.Half]) [] O .sct G (fun hc=>G9 Re O O O) O (JLo (U8 x15.1.Half) [41] O .sct ⟨Ua,G⟩ (fun hc=>Gg Hn O O O) O (JLo (BL (decide (x15.1.Half=0))) [42] O .sct ⟨Ua,G⟩ (fun hc=>Q0 O O O) O (JLo (BL (decide (x15.1.Half=0))) [43] O .sct ⟨Ua,G⟩ (fun hc=>G6 O O) O (JLo (.dptr [U8 x15.1.Half]) [] O .optf G (fun hc=>G9 Re O O O) O (JLo (U8 x15.1.Half) [45] O .optf ⟨Ua,G⟩ (fun hc=>Gg Hn O O O) O (JLo (U8 half) [] O .optf G (fun hc=>G6 O O) O ?_)))))))))))))
   refine JLo (BL (decide (x15.1.Half=half))) [46,47] O .optf ⟨Ua,Ua,G⟩ (fun hc=>Q0 O O O) O (Gf (u:=BL ((decide (x15.1.Half=0))||(decide (x15.1.Half=half)))) [(44,BL (decide (x15.1.Half=0))),(48,_)] O O O .sct ⟨.all id,.part,G⟩ (fun hc=>G28 O O O O) ?_)
   refine JLh (BL ((decide (x15.1.G2=x.G2))&&((decide (x15.1.Half=0))||(decide (x15.1.Half=half))))) (Rm O O O O) O (G5 (hK19 (JCc O h (fun h hb=>?_) (fun h hb=>?_))))
   ·
    refine G1 (JLm (I64 s15) O (JLm (.fn 133 []) O (JLh (.agg (Box.cs x15.2)) (Gi Yj O O O) O ?_)))
    obtain⟨r20,hr20,h⟩:=Ga h
    refine JLh (I64 r20) (G40 (args:=[.agg (Box.cs x15.2)]) (caps:=[]) O O (H82 x15.2 r20 hr20) Jf7 ⟨O,O,G⟩ O) O ?_
    obtain⟨v21,hv21,h⟩:=Jd h
    refine JLh (I64 v21) (Jf hv21 O O O) O (JLm (I64 v21) O (G5 (e15 _ _ (i15++[q15]) v21 (ho2_15 _ (Option.some.inj h).symm) (Ga4 (List.getElem?_eq_some_iff.1 he15).1 hs15) ⟨(.sm O O),⟨⟨_,rfl,.iter rfl⟩,G⟩,rfl⟩)))
   ·
    refine Gr (e15 _ _ (i15++[q15]) s15 (ho2_15 _ (Option.some.inj h).symm) (Ga4 (List.getElem?_eq_some_iff.1 he15).1 hs15) ⟨(.sm O O),⟨⟨_,rfl,.iter rfl⟩,G⟩,rfl⟩)
  ·
   obtain⟨p_,h,hp⟩:=hi15.done ha15
   replace h:=app1 hkx15 h
   refine JLh (BL false) (Gz O O O) O (G5 (hK16 (Js fun hK22=>G27 O (Je (hK7 (Jr fun hK23=>(JLm (I64 s15) O (JLm (I64 s15) O (G5 (hK23 (Gq (⟨[I64 s15],[],G,O,⟨⟨_,O,.conv (.same O)⟩,G⟩,O,s15,Eq.mpr (Option.some.inj h) hp,O⟩))))))))))))
theorem Je6 (S_:(Gb)→(Slot)→(Box)→(Int)→Option Int) (hS_:∀ m x b half r,S_ m x b half=some r→∃ p:Prop,G9c m x b half (fun r_=>r_=r)=some p∧p) (m:Gb) (x:Slot) (b:Box) (half:Int) (r:Int) (h:S_ m x b half=some r):Pure Eo 95 [.dptr (Gb.cs m),.agg [I64 x.G2,I64 x.Tier,U8 x.Half],.agg (Box.cs b),U8 half] (·=I64 r):=by
 obtain⟨p,h1,h2⟩:=hS_ m x b half r h
 exact(Je5 m x b half _ p h1 h2).monoP (fun av hh=>by obtain⟨r_,rfl,ha⟩:=hh; exact ha)

def Z0 (m:Gb):Option Int:=
 some m.lifts
theorem G3c (m:Gb) (r:Int) (h:Z0 m=some r):Pure Eo 16 [.dptr (Gb.cs m)] (·=I64 r):=by
 unfold Z0 at h
 refine Gy [.tmp 2] Tryz.func16 O O (Jr fun hK1=>(JLm (I64 0) O (G5 (hK1 (Js fun hK2=>Jr fun hK3=>(JLm (Ef m) O (JLh (BL true) (Gs O (Yo m true O) G86 ⟨O,O,G⟩) O (JLh (BL false) (Qx (b:=true) O O) O (G5 (hK3 (G27 O (Gr (hK2 (Jr fun hK5=>(JLm (Ef m) O (JLh (Ef m) (G68 O O) O (JLh (.dptr [I64 m.lifts]) (G9 Gbc O O O) O (JLh (I64 m.lifts) (Gg Gc O O O) O (JLm (I64 m.lifts) O (G5 (hK5 (Gq (fin1 I64 h)))))))))))))))))))))))

def Jb2 (l:List J5):Option Int:=
 each (fun y20 i20 (s20:Unit) nx20=>
  bnd (y20.val) fun r26=>
  bif (!r26) then
  (some y20.bad)
  else
  (nx20 ()))
 (fun(s20:Unit)=>
  some 0) l 0 ()
theorem Qaf (l:List J5) (r:Int) (h:Jb2 l=some r):Pure Eo 80 [LS 2 J5.av l] (·=I64 r):=by
 unfold Jb2 at h
 refine Gy [.tmp 2] Tryz.func80 O O (Jr fun hK1=>(JLm (I64 0) O (G5 (hK1 (Js fun hK2=>Jr fun hK3=>(JLm (LS 2 J5.av l) O (JLl Gea O O O fun hm6=>(JLm (I64 0) O (G5 (hK3 (Gw ?_)))))))))))
 obtain⟨b20,kx20,hb20,hkx20,h⟩:=Jx h
 refine Jb (fun i20 (s20:Unit)=>each b20 kx20 (List.drop i20 l) i20 s20=some r) (fun i20 s20=>[(5,LS 2 J5.av l),(6,En l.length),(7,En i20)]) (fun i20 s20=>[]) (fun i20=>l.length - i20) 0 () h ⟨(.sm O O),G,O⟩ ?_
 clear h
 intro i20 s20 hi20 K20 e20
 refine Jr fun hK21=>(JLh (BL (decide ((i20:Int) < (l.length:Int)))) (Qg O O O) O (G5 (hK21 (Js fun hK22=>Gn O (fun hb=>?_) (fun hb=>?_)))))
 ·
  have hk20:=Qr hb
  obtain⟨y20,nx20,hy20,hn20,h⟩:=J9 hi20 hk20
  replace h:=G17 hb20 h
  refine Gr (hK22 (Js fun hK23=>Gw (Jr fun hK24=>(JLh (.dptr [.fn y20.f y20.c,I64 y20.bad]) (Hf (f:=J5.av) (xs:=l) (y:=y20) O O O Gea hy20 O) O (JLh (.agg [.fn y20.f y20.c,I64 y20.bad]) (Gi Q6a O O O) O (JLh (.ptr 1139 0) (Hp 1139 2 H4d O O) O (Ho (u:=.junk) (Hc (u:=.agg [.fn y20.f y20.c,I64 y20.bad]) (ds:=[.fn y20.f y20.c,I64 y20.bad]) Jf1 O O O O O O O O) (G5 (hK24 (Gm [(4,.dptr [.fn y20.f y20.c,I64 y20.bad]),(5,LS 2 J5.av l),(6,En l.length),(7,En i20)] [] 1139 rfl (by simp [Qy,AV.refs,y20.d]) rfl G rfl (by repeat' (first | exact .ptr | constructor)) ?_))))))))))
  refine Jr fun hK25=>(JLh (.dptr [.fn y20.f y20.c,I64 y20.bad]) (G9 Q4d O O O) O (JLh (.fn y20.f y20.c) (Gg R19 O O O) O ?_))
  obtain⟨r26,hr26,h⟩:=Ga h
  refine JLh (BL r26) (G40 (args:=[]) (caps:=y20.c) O O (y20.w r26 hr26) y20.B G y20.d) O (JLh (BL (!r26)) (Qx (b:=r26) O O) O (G5 (hK25 (JCc O h (fun h hb=>?_) (fun h hb=>?_)))))
  ·
   refine Jr fun hK27=>(JLh (.dptr [I64 y20.bad]) (G9 Q4c O O O) O (JLh (I64 y20.bad) (Gg Hcb O O O) O (JLm (I64 y20.bad) O (G5 (hK27 (Gq (fin1 I64 h)))))))
  ·
   refine Gr (hK23 (G1 (JLh (I64 ((i20+1:Nat):Int)) (Jf (J6 hk20 hm6) O O O) O (JLm (I64 ((i20+1:Nat):Int)) O (G5 (e20 _ _ (i20+1) () (app1 hn20 h) (by omega) ⟨(.sm O O),G,rfl⟩))))))
 ·
  have h:=app1 hkx20 (Ja hi20 (Hs hb))
  refine Je (hK2 (Jr fun hK28=>(JLm (I64 0) O (G5 (hK28 (Gq (fin1 I64 h)))))))

def Z2 (p0:Bool):Option Bool:=
 some p0
theorem Gb0 (p0:Bool) (r:Bool) (h:Z2 p0=some r):Pure Eo 130 [.dptr [BL p0]] (·=BL r):=by
 unfold Z2 at h
 refine Gy [.tmp 1] Tryz.func130 O O (Jr fun hK1=>(JLm (BL false) O (G5 (hK1 (Jr fun hK2=>(JLh (BL p0) (Gg Q1 O O O) O (JLm (BL p0) O (G5 (hK2 (Gq (fin1 BL h)))))))))))

def H37 (holds:Bool) (bad:Int):Option Unit:=
 some ()
theorem H11 (holds:Bool) (bad:Int) (r:Unit) (h:H37 holds bad=some r):Pure Eo 81 [BL holds,I64 bad] (·=.agg [.fn 130 [.dptr [BL holds]],I64 bad]):=by
 unfold H37 at h
 refine Gy [.cell 4 148] Tryz.func81 O O (Jr fun hK1=>(JLh (.ptr 1140 0) (Jk (cs:=[BL holds]) 1140 O O O O O) O (JLh (.ptr 1141 0) (G58 1141 [.sc .nilFunc,I64 0] [.nilFunc,E0] G1b ⟨.inl O,.inl O,G⟩ O O) O (G5 (hK1 (Gm [(1,I64 bad),(2,.dptr [BL holds]),(4,.ptr 1141 0)] [(1141,.box 148 [.sc .nilFunc,I64 0])] 1140 rfl rfl rfl ⟨⟨_,rfl,.boxEq rfl rfl⟩,G⟩ rfl (by exact⟨.conv (.same rfl),.ptr,.conv (.same rfl),G⟩) ?_))))))
 refine Jr fun hK2=>(JLh (.fn 130 [.dptr [BL holds]]) (Jy (cs:=[.dptr [BL holds]]) O O) O (JLm (I64 bad) O (JLh (.agg [.fn 130 [.dptr [BL holds]],I64 bad]) (Hb (cs:=[.fn 130 [.dptr [BL holds]],I64 bad]) [(0,1),(1,1)] [.sc .nilFunc,I64 0] [.nilFunc,E0] Zw G1b ⟨.inl O,.inl O,G⟩ O O) O (Ho (u:=.junk) (Hc (u:=.agg [.fn 130 [.dptr [BL holds]],I64 bad]) (ds:=[.fn 130 [.dptr [BL holds]],I64 bad]) Jf1 O O O O O O O O) (G5 (hK2 (Gq (⟨[.agg [.fn 130 [.dptr [BL holds]],I64 bad]],[],G,O,⟨⟨_,⟨_,_,_,_,O,O,O,.inl ⟨Q6a,O⟩⟩,.conv (.same O)⟩,G⟩,O,congrArg (fun _:Unit=>(.agg [.fn 130 [.dptr [BL holds]],I64 bad]:AV)) (Option.some.inj h)⟩))))))))

def G04 (s:List Int) (v:Int):Option Int:=
 each (fun y18 i18 (s18:Unit) nx18=>
  bif decide (v=y18) then
  (some (i18:Int))
  else
  (nx18 ()))
 (fun(s18:Unit)=>
  some (-1)) s 0 ()
theorem Hf4 (s:List Int) (v:Int) (r:Int) (h:G04 s v=some r):Pure Eo 148 [Ea s,U8 v] (·=I64 r):=by
 unfold G04 at h
 refine Gy [.tmp 4] Tryz.func148 O O (Jr fun hK1=>(JLm (I64 0) O (G5 (hK1 (Js fun hK2=>Jr fun hK3=>(JLm (Ea s) O (JLl Ga5 O O O fun hm7=>(JLm (I64 0) O (G5 (hK3 (Gw ?_)))))))))))
 obtain⟨b18,kx18,hb18,hkx18,h⟩:=Jx h
 refine Jb (fun i18 (s18:Unit)=>each b18 kx18 (List.drop i18 s) i18 s18=some r) (fun i18 s18=>[(0,Ea s),(1,U8 v),(7,En s.length),(8,En i18)]) (fun i18 s18=>[]) (fun i18=>s.length - i18) 0 () h ⟨(.sm O O),G,rfl⟩ ?_
 clear h
 intro i18 s18 hi18 K18 e18
 refine Jr fun hK19=>(JLh (BL (decide ((i18:Int) < (s.length:Int)))) (Qg O O O) O (G5 (hK19 (Js fun hK20=>Gn O (fun hb=>?_) (fun hb=>?_)))))
 ·
  have hk18:=Qr hb
  obtain⟨y18,nx18,hy18,hn18,h⟩:=J9 hi18 hk18
  replace h:=G17 hb18 h
  refine Gr (hK20 (Js fun hK21=>Gw (Jr fun hK22=>(JLm (En i18) O (JLm (En i18) O (G5 (hK22 (Jr fun hK23=>(JLm (U8 v) O (JLm (Ea s) O (JLm (En i18) O (JLh (.dptr [U8 y18]) (Hf (f:=U8) (xs:=s) (y:=y18) O O O Ga5 hy18 O) O (JLh (U8 y18) (Gg Hn O O O) O (JLh (BL (decide (v=y18))) (Q0 O O O) O (G5 (hK23 (JCc O h (fun h hb=>?_) (fun h hb=>?_))))))))))))))))))
  ·
   refine Jr fun hK24=>(JLm (En i18) O (JLm (En i18) O (G5 (hK24 (Gq (fin1 I64 h))))))
  ·
   refine Gr (hK21 (G1 (JLh (I64 ((i18+1:Nat):Int)) (Jf (J6 hk18 hm7) O O O) O (JLm (I64 ((i18+1:Nat):Int)) O (G5 (e18 _ _ (i18+1) () (app1 hn18 h) (by omega) ⟨(.sm O O),G,rfl⟩))))))
 ·
  have h:=app1 hkx18 (Ja hi18 (Hs hb))
  refine Je (hK2 (Jr fun hK25=>(JLm (I64 (-1)) O (G5 (hK25 (Gq (fin1 I64 h)))))))

def Z7 (s:List Int) (v:Int):Option Bool:=
 bnd (G04 s v) fun r3=>
 some (decide (0≤r3))
theorem H8d (s:List Int) (v:Int) (r:Bool) (h:Z7 s v=some r):Pure Eo 113 [Ea s,U8 v] (·=BL r):=by
 unfold Z7 at h
 refine Gy [.tmp 4] Tryz.func113 O O (Jr fun hK1=>(JLm (BL false) O (G5 (hK1 (Jr fun hK2=>(JLm (Ea s) O (JLm (U8 v) O ?_)))))))
 obtain⟨r3,hr3,h⟩:=Ga h
 refine JLh (I64 r3) (Gs O (Hf4 s v r3 hr3) R4f ⟨O,O,O,O,G⟩) O (JLh (BL (decide (0≤r3))) (Gfb O O O) O (JLm (BL (decide (0≤r3))) O (G5 (hK2 (Gq (fin1 BL h))))))

def G39 (s:Gk) (x:Slot) (size:Int):Option Bool:=
 bnd (bif (((decide (0≤x.G2))&&(decide (x.G2 < (s.Columns.length:Int))))&&(decide (0≤x.Tier))) then Yy s.Columns x.G2 some else some default) fun y3=>
 bnd (bif ((((decide (0≤x.G2))&&(decide (x.G2 < (s.Columns.length:Int))))&&(decide (0≤x.Tier)))&&(decide (x.Tier < y3.Tiers))) then G45 size else some default) fun r4=>
 bnd (bif ((((decide (0≤x.G2))&&(decide (x.G2 < (s.Columns.length:Int))))&&(decide (0≤x.Tier)))&&(decide (x.Tier < y3.Tiers))) then Z7 r4 x.Half else some default) fun r5=>
 some (((((decide (0≤x.G2))&&(decide (x.G2 < (s.Columns.length:Int))))&&(decide (0≤x.Tier)))&&(decide (x.Tier < y3.Tiers)))&&r5)
theorem H7e (s:Gk) (x:Slot) (size:Int) (r:Bool) (h:G39 s x size=some r):Pure Eo 58 [.agg (Gk.cs s),.agg [I64 x.G2,I64 x.Tier,U8 x.Half],U8 size] (·=BL r):=by
 unfold G39 at h
 refine Gy [.tmp 6] Tryz.func58 O O (Jr fun hK1=>(JLh (.ptr 1105 0) (Jk (cs:=(Gk.cs s)) 1105 O O O O O) O (JLh (.ptr 1106 0) (Jk (cs:=[I64 x.G2,I64 x.Tier,U8 x.Half]) 1106 O O O O O) O (JLm (BL false) O (G5 (hK1 (Gm [(2,U8 size),(3,Eg s),(4,.ptr 1106 0)] [(1106,.box 43 [I64 x.G2,I64 x.Tier,U8 x.Half])] 1105 rfl rfl rfl ⟨⟨_,rfl,.boxEq rfl rfl⟩,G⟩ rfl (by exact⟨.conv (.same rfl),.ptr,.conv (.same rfl),G⟩) ?_)))))))
 refine Gm [(2,U8 size),(3,Eg s),(4,.dptr [I64 x.G2,I64 x.Tier,U8 x.Half])] [] 1106 rfl rfl rfl G rfl (by exact⟨.conv (.same rfl),.conv (.same rfl),.ptr,G⟩) (Js fun hK2=>?_)
 obtain⟨y3,hy3,h⟩:=Ga h
 obtain⟨r4,hr4,h⟩:=Ga h
 obtain⟨r5,hr5,h⟩:=Ga h
 refine JC_d0 J0 (by kernel_rfl) (Dq (.dptr [I64 x.G2,I64 x.Tier,U8 x.Half]) (G9 Jc O O O) O (Dq (I64 x.G2) (Gg Gc O O O) O (Dq (BL (decide (0≤x.G2))) (Gfb O O O) O (Dq (BL (decide (0≤x.G2))) (G6 O O) O (Do (.dptr [I64 x.G2,I64 x.Tier,U8 x.Half]) [] O .sct G (fun hc=>G9 Jc O O O) O (Do (I64 x.G2) [11] O .sct ⟨Ua,G⟩ (fun hc=>Gg Gc O O O) O (Do (Eg s) [] O .sct G (fun hc=>G9 Hv O O O) O (Do (E1 s.Columns) [13] O .sct ⟨Ua,G⟩ (fun hc=>Gg J8 O O O) O (Do (En s.Columns.length) [14] O .sct ⟨Ua,G⟩ (fun hc=>G1a (f:=G2.av) (xs:=s.Columns) Ht O O) O (Do (BL (decide (x.G2 < (s.Columns.length:Int)))) [12,15] O .sct ⟨Ua,Ua,G⟩ (fun hc=>Qg O O O) O (Dq (BL ((decide (0≤x.G2))&&(decide (x.G2 < (s.Columns.length:Int))))) (Rm O O O O) O (Dq (BL ((decide (0≤x.G2))&&(decide (x.G2 < (s.Columns.length:Int))))) (G6 O O) O (Do (.dptr [I64 x.Tier,U8 x.Half]) [] O .sct G (fun hc=>G9 Zb O O O) O ?_)))))))))))))
 refine Do (I64 x.Tier) [19] O .sct ⟨Ua,G⟩ (fun hc=>Gg Gc O O O) O (Do (BL (decide (0≤x.Tier))) [20] O .sct ⟨Ua,G⟩ (fun hc=>Gfb O O O) O (Dq (BL (((decide (0≤x.G2))&&(decide (x.G2 < (s.Columns.length:Int))))&&(decide (0≤x.Tier)))) (Rm O O O O) O (Dq (BL (((decide (0≤x.G2))&&(decide (x.G2 < (s.Columns.length:Int))))&&(decide (0≤x.Tier)))) (G6 O O) O (Do (.dptr [I64 x.Tier,U8 x.Half]) [] O .sct G (fun hc=>G9 Zb O O O) O (Do (I64 x.Tier) [24] O .sct ⟨Ua,G⟩ (fun hc=>Gg Gc O O O) O (Do (Eg s) [] O .sct G (fun hc=>G9 Hv O O O) O (Do (E1 s.Columns) [26] O .sct ⟨Ua,G⟩ (fun hc=>Gg J8 O O O) O (Do (.dptr [I64 x.G2,I64 x.Tier,U8 x.Half]) [] O .sct G (fun hc=>G9 Jc O O O) O (Do (I64 x.G2) [28] O .sct ⟨Ua,G⟩ (fun hc=>Gg Gc O O O) O (Do (Ej y3) [27,29] O .sct ⟨Ua,Ua,G⟩ (fun hc=>(match Zi (H1 hc hy3) with | ⟨_,hm_,hy_⟩=>Hf (f:=G2.av) (xs:=s.Columns) (y:=y3) O O O Ht hy_ hm_)) O (Do (.dptr ((G2.cs y3).drop 3)) [30] O .sct ⟨Ua,G⟩ (fun hc=>G9 H18 O O O) O (Do (I64 y3.Tiers) [31] O .sct ⟨Ua,G⟩ (fun hc=>Gg Gc O O O) O (Do (BL (decide (x.Tier < y3.Tiers))) [25,32] O .sct ⟨Ua,Ua,G⟩ (fun hc=>Qg O O O) O ?_)))))))))))))
 refine Dq (BL ((((decide (0≤x.G2))&&(decide (x.G2 < (s.Columns.length:Int))))&&(decide (0≤x.Tier)))&&(decide (x.Tier < y3.Tiers)))) (Rm O O O O) O (Dq (BL ((((decide (0≤x.G2))&&(decide (x.G2 < (s.Columns.length:Int))))&&(decide (0≤x.Tier)))&&(decide (x.Tier < y3.Tiers)))) (G6 O O) O (Do (U8 size) [] O .sct G (fun hc=>G6 O O) O (Do (Ea r4) [36] O .sct ⟨Ua,G⟩ (fun hc=>Gs (args:=[U8 size]) O (Hfe size r4 (H1 hc hr4)) Jfc ⟨O,O,G⟩) O (Do (.dptr [U8 x.Half]) [] O .sct G (fun hc=>G9 Re O O O) O (Do (U8 x.Half) [38] O .sct ⟨Ua,G⟩ (fun hc=>Gg Hn O O O) O (Do (BL r5) [37,39] O .sct ⟨Ua,Ua,G⟩ (fun hc=>Gs (args:=[Ea r4,U8 x.Half]) O (H8d r4 x.Half r5 (H1 hc hr5)) R5c ⟨O,O,O,O,G⟩) O (Dq (BL (((((decide (0≤x.G2))&&(decide (x.G2 < (s.Columns.length:Int))))&&(decide (0≤x.Tier)))&&(decide (x.Tier < y3.Tiers)))&&r5)) (Rm O O O O) O (Dq (BL (((((decide (0≤x.G2))&&(decide (x.G2 < (s.Columns.length:Int))))&&(decide (0≤x.Tier)))&&(decide (x.Tier < y3.Tiers)))&&r5)) (G7 O O) O (Dnil ?_)))))))))
 refine hK2 (Gq (fin1 BL h))

def Ym (s:List Slot) (v:Slot):Option Int:=
 each (fun y18 i18 (s18:Unit) nx18=>
  bif decide (v=y18) then
  (some (i18:Int))
  else
  (nx18 ()))
 (fun(s18:Unit)=>
  some (-1)) s 0 ()
theorem Ha9 (s:List Slot) (v:Slot) (r:Int) (h:Ym s v=some r):Pure Eo 155 [E9 s,.agg [I64 v.G2,I64 v.Tier,U8 v.Half]] (·=I64 r):=by
 unfold Ym at h
 refine Gy [.tmp 4] Tryz.func155 O O (Jr fun hK1=>(JLh (.ptr 1193 0) (Jk (cs:=[I64 v.G2,I64 v.Tier,U8 v.Half]) 1193 O O O O O) O (JLm (I64 0) O (G5 (hK1 (Gm [(0,E9 s),(3,.dptr [I64 v.G2,I64 v.Tier,U8 v.Half])] [] 1193 rfl rfl rfl G rfl (by exact⟨.conv (.same rfl),.ptr,G⟩) (Js fun hK2=>Jr fun hK3=>(JLm (E9 s) O (JLl Ro O O O fun hm7=>(JLm (I64 0) O (G5 (hK3 (Gw ?_)))))))))))))
 obtain⟨b18,kx18,hb18,hkx18,h⟩:=Jx h
 refine Jb (fun i18 (s18:Unit)=>each b18 kx18 (List.drop i18 s) i18 s18=some r) (fun i18 s18=>[(0,E9 s),(3,.dptr [I64 v.G2,I64 v.Tier,U8 v.Half]),(7,En s.length),(8,En i18)]) (fun i18 s18=>[]) (fun i18=>s.length - i18) 0 () h ⟨(.sm O O),G,rfl⟩ ?_
 clear h
 intro i18 s18 hi18 K18 e18
 refine Jr fun hK19=>(JLh (BL (decide ((i18:Int) < (s.length:Int)))) (Qg O O O) O (G5 (hK19 (Js fun hK20=>Gn O (fun hb=>?_) (fun hb=>?_)))))
 ·
  have hk18:=Qr hb
  obtain⟨y18,nx18,hy18,hn18,h⟩:=J9 hi18 hk18
  replace h:=G17 hb18 h
  refine Gr (hK20 (Js fun hK21=>Gw (Jr fun hK22=>(JLm (En i18) O (JLm (En i18) O (G5 (hK22 (Js fun hK23=>JC_d0 J0 (by kernel_rfl) (Dq (.agg [I64 v.G2,I64 v.Tier,U8 v.Half]) (Gi Hu O O O) O (Dq (E9 s) (G6 O O) O (Dq (En i18) (G6 O O) O (Dq (Ek y18) (Hf (f:=Slot.av) (xs:=s) (y:=y18) O O O Ro hy18 O) O (Dq (.agg (Slot.cs y18)) (Gi Hu O O O) O (Dq (BL (decide (v=y18))) (R3a (vs:=[.int .i64 v.G2,.int .i64 v.Tier,.int .u8 v.Half]) (us:=[.int .i64 y18.G2,.int .i64 y18.Tier,.int .u8 y18.Half]) 4 O (Y74 v y18) Q02 Qe2 O O O) O (Dnil (hK23 (JCc O h (fun h hb=>?_) (fun h hb=>?_))))))))))))))))))
  ·
   refine Jr fun hK24=>(JLm (En i18) O (JLm (En i18) O (G5 (hK24 (Gq (fin1 I64 h))))))
  ·
   refine Gr (hK21 (G1 (JLh (I64 ((i18+1:Nat):Int)) (Jf (J6 hk18 hm7) O O O) O (JLm (I64 ((i18+1:Nat):Int)) O (G5 (e18 _ _ (i18+1) () (app1 hn18 h) (by omega) ⟨(.sm O O),G,rfl⟩))))))
 ·
  have h:=app1 hkx18 (Ja hi18 (Hs hb))
  refine Je (hK2 (Jr fun hK25=>(JLm (I64 (-1)) O (G5 (hK25 (Gq (fin1 I64 h)))))))

def Qi (s:List Slot) (v:Slot):Option Bool:=
 bnd (Ym s v) fun r3=>
 some (decide (0≤r3))
theorem H53 (s:List Slot) (v:Slot) (r:Bool) (h:Qi s v=some r):Pure Eo 127 [E9 s,.agg [I64 v.G2,I64 v.Tier,U8 v.Half]] (·=BL r):=by
 unfold Qi at h
 refine Gy [.tmp 4] Tryz.func127 O O (Jr fun hK1=>(JLh (.ptr 1175 0) (Jk (cs:=[I64 v.G2,I64 v.Tier,U8 v.Half]) 1175 O O O O O) O (JLm (BL false) O (G5 (hK1 (Gm [(0,E9 s),(3,.dptr [I64 v.G2,I64 v.Tier,U8 v.Half])] [] 1175 rfl rfl rfl G rfl (by exact⟨.conv (.same rfl),.ptr,G⟩) (Jr fun hK2=>(JLm (E9 s) O (JLh (.agg [I64 v.G2,I64 v.Tier,U8 v.Half]) (Gi Hu O O O) O ?_)))))))))
 obtain⟨r3,hr3,h⟩:=Ga h
 refine JLh (I64 r3) (Gs O (Ha9 s v r3 hr3) R4c ⟨O,O,O,O,G⟩) O (JLh (BL (decide (0≤r3))) (Gfb O O O) O (JLm (BL (decide (0≤r3))) O (G5 (hK2 (Gq (fin1 BL h))))))

def Zc (half:Int) (p1:List Slot) (p2:Slot):Option Bool:=
 chk (p2.Tier - 1) fun v3=>
 bnd (Qi p1 (Slot.mk p2.G2 v3 half)) fun r4=>
 some r4
theorem H43 (half:Int) (p1:List Slot) (p2:Slot) (r:Bool) (h:Zc half p1 p2=some r):Pure Eo 126 [U8 half,.dptr [E9 p1],.dptr [I64 p2.G2,I64 p2.Tier,U8 p2.Half]] (·=BL r):=by
 unfold Zc at h
 refine Gy [.tmp 4] Tryz.func126 O O (Jr fun hK1=>(JLm (BL false) O (G5 (hK1 (Jr fun hK2=>(JLh (E9 p1) (Gg Gbb O O O) O (JLh (.dptr [I64 p2.G2,I64 p2.Tier,U8 p2.Half]) (G9 Jc O O O) O (JLh (I64 p2.G2) (Gg Gc O O O) O (JLh (.dptr [I64 p2.Tier,U8 p2.Half]) (G9 Zb O O O) O (JLh (I64 p2.Tier) (Gg Gc O O O) O ?_))))))))))
 obtain⟨v3,hv3,h⟩:=Jd h
 refine JLh (I64 v3) (H49 hv3 O O O) O (JLm (U8 half) O (JLh (.agg [I64 p2.G2,I64 v3,U8 half]) (Hb (cs:=[I64 p2.G2,I64 v3,U8 half]) [(0,1),(1,1),(2,1)] [I64 0,I64 0,U8 0] [E0,E0,.int .u8 0] Ga6 Gcd ⟨.inl O,.inl O,.inl O,G⟩ O O) O ?_))
 obtain⟨r4,hr4,h⟩:=Ga h
 refine JLh (BL r4) (Gs O (H53 p1 (Slot.mk p2.G2 v3 half) r4 hr4) R54 ⟨O,O,O,O,G⟩) O (JLm (BL r4) O (G5 (hK2 (Gq (fin1 BL h)))))

def G1f (x:Slot) (l:List Slot):Option Bool:=
 bif decide (x.Tier≤0) then
 (some true)
 else
 (bnd (Zc x.Half l x) fun r7=>
  bnd (bif ((!r7)&&(decide (x.Half=0))) then Zc 1 l x else some default) fun r8=>
  bnd (bif ((!r7)&&((decide (x.Half=0))&&r8)) then Zc 2 l x else some default) fun r9=>
  some (r7||(((decide (x.Half=0))&&r8)&&r9)))
abbrev Es (l:List Slot) (x:Slot):List AV:=[.dptr [E9 l],.dptr [I64 x.G2,I64 x.Tier,U8 x.Half]]
theorem Ha8 (x:Slot) (l:List Slot) (r:Bool) (h:G1f x l=some r):Pure Eo 73 [.agg [I64 x.G2,I64 x.Tier,U8 x.Half],E9 l] (·=BL r):=by
 unfold G1f at h
 refine Gy [.tmp 4] Tryz.func73 O O (Jr fun hK1=>(JLh (.ptr 1131 0) (Jk (cs:=[I64 x.G2,I64 x.Tier,U8 x.Half]) 1131 O O O O O) O (JLh (.ptr 1132 0) (Jk (cs:=[E9 l]) 1132 O O O O O) O (JLm (BL false) O (G5 (hK1 (Gm [(2,.dptr [I64 x.G2,I64 x.Tier,U8 x.Half]),(3,.ptr 1132 0)] [(1132,.box 136 [E9 l])] 1131 rfl rfl rfl ⟨⟨_,rfl,.boxEq rfl rfl⟩,G⟩ rfl (by exact⟨.ptr,.conv (.same rfl),G⟩) (Gm [(2,.dptr [I64 x.G2,I64 x.Tier,U8 x.Half]),(3,.dptr [E9 l])] [] 1132 rfl rfl rfl G rfl (by exact⟨.conv (.same rfl),.ptr,G⟩) (Js fun hK2=>Jr fun hK3=>(JLh (.dptr [I64 x.Tier,U8 x.Half]) (G9 Zb O O O) O (JLh (I64 x.Tier) (Gg Gc O O O) O (JLh (BL (decide (x.Tier≤0))) (J06 O O O) O (G5 (hK3 ?_))))))))))))))
 refine JCc O h ?_ ?_<;>intro h hb
 ·
  refine Jr fun hK4=>(JLm (BL true) O (G5 (hK4 (Gq (fin1 BL h)))))
 ·
  refine Gr (hK2 (Jr fun hK5=>(JLh (.fn 126 (Es l x)) (Jy (cs:=(Es l x)) O O) O (JLm (.fn 126 (Es l x)) O (G5 (hK5 (Jr fun hK6=>(JLm (.fn 126 (Es l x)) O (JLh (.dptr [U8 x.Half]) (G9 Re O O O) O (JLh (U8 x.Half) (Gg Hn O O O) O ?_))))))))))
  obtain⟨r7,hr7,h⟩:=Ga h
  refine JLh (BL r7) (G40 (args:=[U8 x.Half]) (caps:=(Es l x)) O O (H43 x.Half l x r7 hr7) J15 ⟨O,O,G⟩ O) O (JLm (BL r7) O (JLo (.dptr [U8 x.Half]) [] O .scf G (fun hc=>G9 Re O O O) O (JLo (U8 x.Half) [15] O .scf ⟨Ua,G⟩ (fun hc=>Gg Hn O O O) O (JLo (BL (decide (x.Half=0))) [16] O .scf ⟨Ua,G⟩ (fun hc=>Q0 O O O) O (JLo (BL (decide (x.Half=0))) [17] O .scf ⟨Ua,G⟩ (fun hc=>G6 O O) O (JLo (.fn 126 (Es l x)) [] O .optt G (fun hc=>G6 O O) O ?_))))))
  obtain⟨r8,hr8,h⟩:=Ga h
  refine JLo (BL r8) [19] O .optt ⟨Ua,G⟩ (fun hc=>G40 (args:=[U8 1]) (caps:=(Es l x)) O O (H43 1 l x r8 (H1 hc hr8)) J15 ⟨O,O,G⟩ O) O (Gf (u:=BL ((decide (x.Half=0))&&r8)) [(18,BL (decide (x.Half=0))),(20,_)] O O O .scf ⟨.all id,.part,G⟩ (fun hc=>Rm O O O O) ?_)
  refine JLo (BL ((decide (x.Half=0))&&r8)) [21] O .scf ⟨Ua,G⟩ (fun hc=>G6 O O) O (JLo (.fn 126 (Es l x)) [] O .optt G (fun hc=>G6 O O) O ?_)
  obtain⟨r9,hr9,h⟩:=Ga h
  refine JLo (BL r9) [23] O .optt ⟨Ua,G⟩ (fun hc=>G40 (args:=[U8 2]) (caps:=(Es l x)) O O (H43 2 l x r9 (H1 hc hr9)) J15 ⟨O,O,G⟩ O) O (Gf (u:=BL (((decide (x.Half=0))&&r8)&&r9)) [(22,BL ((decide (x.Half=0))&&r8)),(24,_)] O O O .scf ⟨.all id,.part,G⟩ (fun hc=>Rm O O O O) ?_)
  refine JLh (BL (r7||(((decide (x.Half=0))&&r8)&&r9))) (G28 O O O O) O (JLm (BL (r7||(((decide (x.Half=0))&&r8)&&r9))) O (G5 (hK6 (Gq (fin1 BL h)))))

def G79 (a:Int) (b:Int):Option Bool:=
 some (((decide (a=b))||(decide (a=0)))||(decide (b=0)))
theorem Hfd (a:Int) (b:Int) (r:Bool) (h:G79 a b=some r):Pure Eo 128 [U8 a,U8 b] (·=BL r):=by
 unfold G79 at h
 refine Gy [.tmp 4] Tryz.func128 O O (Jr fun hK1=>(JLm (BL false) O (G5 (hK1 (Jr fun hK2=>(JLm (U8 a) O (JLm (U8 b) O (JLh (BL (decide (a=b))) (Q0 O O O) O (JLm (BL (decide (a=b))) O (JLo (U8 a) [] O .scf G (fun hc=>G6 O O) O (JLo (BL (decide (a=0))) [9] O .scf ⟨Ua,G⟩ (fun hc=>Q0 O O O) O (JLh (BL ((decide (a=b))||(decide (a=0)))) (G28 O O O O) O (JLm (BL ((decide (a=b))||(decide (a=0)))) O (JLo (U8 b) [] O .scf G (fun hc=>G6 O O) O (JLo (BL (decide (b=0))) [13] O .scf ⟨Ua,G⟩ (fun hc=>Q0 O O O) O (JLh (BL (((decide (a=b))||(decide (a=0)))||(decide (b=0)))) (G28 O O O O) O (JLm (BL (((decide (a=b))||(decide (a=0)))||(decide (b=0)))) O (G5 (hK2 (Gq (fin1 BL h)))))))))))))))))))))

def G94 (a:Slot) (b:Slot):Option Bool:=
 bnd (bif ((decide (a.G2=b.G2))&&(decide (a.Tier=b.Tier))) then G79 a.Half b.Half else some default) fun r3=>
 some (((decide (a.G2=b.G2))&&(decide (a.Tier=b.Tier)))&&r3)
theorem Ha7 (a:Slot) (b:Slot) (r:Bool) (h:G94 a b=some r):Pure Eo 74 [.agg [I64 a.G2,I64 a.Tier,U8 a.Half],.agg [I64 b.G2,I64 b.Tier,U8 b.Half]] (·=BL r):=by
 unfold G94 at h
 refine Gy [.tmp 4] Tryz.func74 O O (Jr fun hK1=>(JLh (.ptr 1133 0) (Jk (cs:=[I64 a.G2,I64 a.Tier,U8 a.Half]) 1133 O O O O O) O (JLh (.ptr 1134 0) (Jk (cs:=[I64 b.G2,I64 b.Tier,U8 b.Half]) 1134 O O O O O) O (JLm (BL false) O (G5 (hK1 (Gm [(2,.dptr [I64 a.G2,I64 a.Tier,U8 a.Half]),(3,.ptr 1134 0)] [(1134,.box 43 [I64 b.G2,I64 b.Tier,U8 b.Half])] 1133 rfl rfl rfl ⟨⟨_,rfl,.boxEq rfl rfl⟩,G⟩ rfl (by exact⟨.ptr,.conv (.same rfl),G⟩) (Gm [(2,.dptr [I64 a.G2,I64 a.Tier,U8 a.Half]),(3,.dptr [I64 b.G2,I64 b.Tier,U8 b.Half])] [] 1134 rfl rfl rfl G rfl (by exact⟨.conv (.same rfl),.ptr,G⟩) ?_))))))))
 refine Jr fun hK2=>(JLh (.dptr [I64 a.G2,I64 a.Tier,U8 a.Half]) (G9 Jc O O O) O (JLh (I64 a.G2) (Gg Gc O O O) O (JLh (.dptr [I64 b.G2,I64 b.Tier,U8 b.Half]) (G9 Jc O O O) O (JLh (I64 b.G2) (Gg Gc O O O) O (JLh (BL (decide (a.G2=b.G2))) (Q0 O O O) O (JLm (BL (decide (a.G2=b.G2))) O (JLo (.dptr [I64 a.Tier,U8 a.Half]) [] O .sct G (fun hc=>G9 Zb O O O) O (JLo (I64 a.Tier) [11] O .sct ⟨Ua,G⟩ (fun hc=>Gg Gc O O O) O (JLo (.dptr [I64 b.Tier,U8 b.Half]) [] O .sct G (fun hc=>G9 Zb O O O) O (JLo (I64 b.Tier) [13] O .sct ⟨Ua,G⟩ (fun hc=>Gg Gc O O O) O (JLo (BL (decide (a.Tier=b.Tier))) [12,14] O .sct ⟨Ua,Ua,G⟩ (fun hc=>Q0 O O O) O (JLh (BL ((decide (a.G2=b.G2))&&(decide (a.Tier=b.Tier)))) (Rm O O O O) O (JLm (BL ((decide (a.G2=b.G2))&&(decide (a.Tier=b.Tier)))) O ?_)))))))))))))
 refine JLo (.dptr [U8 a.Half]) [] O .sct G (fun hc=>G9 Re O O O) O (JLo (U8 a.Half) [18] O .sct ⟨Ua,G⟩ (fun hc=>Gg Hn O O O) O (JLo (.dptr [U8 b.Half]) [] O .sct G (fun hc=>G9 Re O O O) O (JLo (U8 b.Half) [20] O .sct ⟨Ua,G⟩ (fun hc=>Gg Hn O O O) O ?_)))
 obtain⟨r3,hr3,h⟩:=Ga h
 refine JLo (BL r3) [19,21] O .sct ⟨Ua,Ua,G⟩ (fun hc=>Gs (args:=[U8 a.Half,U8 b.Half]) O (Hfd a.Half b.Half r3 (H1 hc hr3)) Jf9 ⟨O,O,O,O,G⟩) O (JLh (BL (((decide (a.G2=b.G2))&&(decide (a.Tier=b.Tier)))&&r3)) (Rm O O O O) O (JLm (BL (((decide (a.G2=b.G2))&&(decide (a.Tier=b.Tier)))&&r3)) O (G5 (hK2 (Gq (fin1 BL h))))))

def Ge3 (a:Slot) (b:Slot):Option Bool:=
 bnd (bif ((decide (a.G2=b.G2))&&(decide (b.Tier < a.Tier))) then G79 a.Half b.Half else some default) fun r3=>
 some (((decide (a.G2=b.G2))&&(decide (b.Tier < a.Tier)))&&r3)
theorem J5e (a:Slot) (b:Slot) (r:Bool) (h:Ge3 a b=some r):Pure Eo 84 [.agg [I64 a.G2,I64 a.Tier,U8 a.Half],.agg [I64 b.G2,I64 b.Tier,U8 b.Half]] (·=BL r):=by
 unfold Ge3 at h
 refine Gy [.tmp 4] Tryz.func84 O O (Jr fun hK1=>(JLh (.ptr 1143 0) (Jk (cs:=[I64 a.G2,I64 a.Tier,U8 a.Half]) 1143 O O O O O) O (JLh (.ptr 1144 0) (Jk (cs:=[I64 b.G2,I64 b.Tier,U8 b.Half]) 1144 O O O O O) O (JLm (BL false) O (G5 (hK1 (Gm [(2,.dptr [I64 a.G2,I64 a.Tier,U8 a.Half]),(3,.ptr 1144 0)] [(1144,.box 43 [I64 b.G2,I64 b.Tier,U8 b.Half])] 1143 rfl rfl rfl ⟨⟨_,rfl,.boxEq rfl rfl⟩,G⟩ rfl (by exact⟨.ptr,.conv (.same rfl),G⟩) (Gm [(2,.dptr [I64 a.G2,I64 a.Tier,U8 a.Half]),(3,.dptr [I64 b.G2,I64 b.Tier,U8 b.Half])] [] 1144 rfl rfl rfl G rfl (by exact⟨.conv (.same rfl),.ptr,G⟩) ?_))))))))
 refine Jr fun hK2=>(JLh (.dptr [I64 a.G2,I64 a.Tier,U8 a.Half]) (G9 Jc O O O) O (JLh (I64 a.G2) (Gg Gc O O O) O (JLh (.dptr [I64 b.G2,I64 b.Tier,U8 b.Half]) (G9 Jc O O O) O (JLh (I64 b.G2) (Gg Gc O O O) O (JLh (BL (decide (a.G2=b.G2))) (Q0 O O O) O (JLm (BL (decide (a.G2=b.G2))) O (JLo (.dptr [I64 a.Tier,U8 a.Half]) [] O .sct G (fun hc=>G9 Zb O O O) O (JLo (I64 a.Tier) [11] O .sct ⟨Ua,G⟩ (fun hc=>Gg Gc O O O) O (JLo (.dptr [I64 b.Tier,U8 b.Half]) [] O .sct G (fun hc=>G9 Zb O O O) O (JLo (I64 b.Tier) [13] O .sct ⟨Ua,G⟩ (fun hc=>Gg Gc O O O) O (JLo (BL (decide (b.Tier < a.Tier))) [12,14] O .sct ⟨Ua,Ua,G⟩ (fun hc=>Gb9 O O O) O (JLh (BL ((decide (a.G2=b.G2))&&(decide (b.Tier < a.Tier)))) (Rm O O O O) O (JLm (BL ((decide (a.G2=b.G2))&&(decide (b.Tier < a.Tier)))) O ?_)))))))))))))
 refine JLo (.dptr [U8 a.Half]) [] O .sct G (fun hc=>G9 Re O O O) O (JLo (U8 a.Half) [18] O .sct ⟨Ua,G⟩ (fun hc=>Gg Hn O O O) O (JLo (.dptr [U8 b.Half]) [] O .sct G (fun hc=>G9 Re O O O) O (JLo (U8 b.Half) [20] O .sct ⟨Ua,G⟩ (fun hc=>Gg Hn O O O) O ?_)))
 obtain⟨r3,hr3,h⟩:=Ga h
 refine JLo (BL r3) [19,21] O .sct ⟨Ua,Ua,G⟩ (fun hc=>Gs (args:=[U8 a.Half,U8 b.Half]) O (Hfd a.Half b.Half r3 (H1 hc hr3)) Jf9 ⟨O,O,O,O,G⟩) O (JLh (BL (((decide (a.G2=b.G2))&&(decide (b.Tier < a.Tier)))&&r3)) (Rm O O O O) O (JLm (BL (((decide (a.G2=b.G2))&&(decide (b.Tier < a.Tier)))&&r3)) O (G5 (hK2 (Gq (fin1 BL h))))))
end
end Go.Proofs.YtidpfkmbfgihlaaGreat
