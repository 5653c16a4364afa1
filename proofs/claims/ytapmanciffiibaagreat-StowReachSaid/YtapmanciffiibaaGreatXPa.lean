/-
 Models of functions of the program,and that they return what the models say.
-/
import Derived.Test.YtapmanciffiibaaGreatXB
set_option linter.unnecessarySimpa false
set_option maxRecDepth 100000
set_option linter.unusedVariables false
set_option linter.unusedSimpArgs false
namespace Go.Proofs.YtapmanciffiibaaGreat
open Go.RowKit
noncomputable section
structure Gy where
 G3:Int
 Kilos:Int
 Small:Bool
 High:Bool
 deriving DecidableEq,Inhabited
def Gy.cs (x:Gy):List AV:=[U8 x.G3,U8 x.Kilos,BL x.Small,BL x.High]
def Gy.av (x:Gy):AV:=.agg x.cs
abbrev Eg (x:Gy):AV:=.dptr (Gy.cs x)
abbrev Ea:=LS 4 Gy.av
structure H7 where
 s:Gu
 boxes:List Ga
 l:List Stowed
 open_:List Int
 x:Stowed
 deriving DecidableEq,Inhabited
def H7.cs (x:H7):List AV:=[E7 x.s.Columns,E3 x.s.Covers,G0 x.s.Light.Kilos,G0 x.s.Light.X,G0 x.s.Light.Y,G0 x.s.Light.Z,E4 x.s.Rows,E5 x.s.Frames,E6 x.s.Tanks,G0 x.s.G2.Tolerance,G0 x.s.G2.Trim,G0 x.s.G2.List_,G0 x.s.G2.Stability,E2 x.boxes,E1 x.l,E0 x.open_,G0 x.x.Ga,G0 x.x.Slot.G3,G0 x.x.Slot.Tier,U8 x.x.Slot.Half]
def H7.av (x:H7):AV:=.agg x.cs
abbrev Ef (x:H7):AV:=.dptr (H7.cs x)
namespace XPF
open XAF
open XCF
open XGF
open XBF
theorem G4b:G73 Ek 122 20=true:=by kernel_rfl
theorem tf_agg_59:G73 Ek 59 4=true:=by kernel_rfl
theorem Gd8:arr1B Ek 123 4=true:=by kernel_rfl
theorem J93:arrB Ek 123 54 1=true:=by kernel_rfl
theorem J92:Hc Ek 10=true:=by kernel_rfl
theorem H9c:Hc Ek 100=true:=by kernel_rfl
theorem J90:Hc Ek 12=true:=by kernel_rfl
theorem He7:Hc Ek 20=true:=by kernel_rfl
theorem J8e:Hc Ek 21=true:=by kernel_rfl
theorem J8c:Hc Ek 29=true:=by kernel_rfl
theorem G25:Hc Ek 30=true:=by kernel_rfl
theorem He1:Hc Ek 31=true:=by kernel_rfl
theorem H3d:Hc Ek 32=true:=by kernel_rfl
theorem Gd6:Hc Ek 33=true:=by kernel_rfl
theorem J8a:Hc Ek 35=true:=by kernel_rfl
theorem tf_call_4:Hc Ek 4=true:=by kernel_rfl
theorem J86:Hc Ek 44=true:=by kernel_rfl
theorem J85:Hc Ek 45=true:=by kernel_rfl
theorem J84:Hc Ek 46=true:=by kernel_rfl
theorem J83:Hc Ek 47=true:=by kernel_rfl
theorem tf_call_5:Hc Ek 5=true:=by kernel_rfl
theorem J7d:Hc Ek 57=true:=by kernel_rfl
theorem J7c:Hc Ek 58=true:=by kernel_rfl
theorem J7b:Hc Ek 59=true:=by kernel_rfl
theorem H15:Hc Ek 6=true:=by kernel_rfl
theorem J7a:Hc Ek 60=true:=by kernel_rfl
theorem Hdb:Hc Ek 61=true:=by kernel_rfl
theorem J78:Hc Ek 64=true:=by kernel_rfl
theorem J37:Hc Ek 7=true:=by kernel_rfl
theorem J73:Hc Ek 76=true:=by kernel_rfl
theorem J36:Hc Ek 8=true:=by kernel_rfl
theorem Hd8:Hc Ek 81=true:=by kernel_rfl
theorem J6f:Hc Ek 89=true:=by kernel_rfl
theorem J6e:Hc Ek 90=true:=by kernel_rfl
theorem J6d:Hc Ek 91=true:=by kernel_rfl
theorem J68:R3 Ek 61 9 64=true:=by kernel_rfl
theorem G8d:J7 Ek 122 0 0=true:=by kernel_rfl
theorem Hd4:J7 Ek 122 1 13=true:=by kernel_rfl
theorem Zw:J7 Ek 122 2 14=true:=by kernel_rfl
theorem Hd3:J7 Ek 122 3 15=true:=by kernel_rfl
theorem Yy:J7 Ek 122 4 16=true:=by kernel_rfl
theorem J32:J7 Ek 59 0 0=true:=by kernel_rfl
theorem J31:J7 Ek 59 1 1=true:=by kernel_rfl
theorem J30:J7 Ek 59 2 2=true:=by kernel_rfl
theorem J2f:J7 Ek 59 3 3=true:=by kernel_rfl
theorem Hd0:H69 Ek 104 .u64=true:=by kernel_rfl
theorem J2a:placesOf Ek 122=some [(0,13),(13,1),(14,1),(15,1),(16,4)]:=by kernel_rfl
theorem J3f:placesOf Ek 36=some [(0,1),(1,1),(2,4),(6,1),(7,1),(8,1),(9,4)]:=by kernel_rfl
theorem G79:placesOf Ek 46=some [(0,1),(1,3)]:=by kernel_rfl
theorem J3d:Qs Ek 38=true:=by kernel_rfl
theorem J4f:Qt Ek 122 20=true:=by kernel_rfl
theorem tf_size_4:Qt Ek 4 1=true:=by kernel_rfl
theorem tf_size_5:Qt Ek 5 1=true:=by kernel_rfl
theorem J67:Qt Ek 59 4=true:=by kernel_rfl
theorem J66:Qt Ek 62 1=true:=by kernel_rfl
theorem Ga9:sliceB Ek 24 59 4=true:=by kernel_rfl
theorem J4d:(Ek.info? 122).bind (fun i=>i.zero.map Value.cells)=some (List.toArray [.slice none 0 0,.slice none 0 0,.int .i64 0,.int .i64 0,.int .i64 0,.int .i64 0,.slice none 0 0,.slice none 0 0,.slice none 0 0,.int .i64 0,.int .i64 0,.int .i64 0,.int .i64 0,.slice none 0 0,.slice none 0 0,.slice none 0 0,.int .i64 0,.int .i64 0,.int .i64 0,.int .u8 0]):=by kernel_rfl
theorem J4c:(Ek.info? 123).bind (fun i=>i.zero.map Value.cells)=some (List.toArray [.nilFunc,.nilFunc,.nilFunc,.nilFunc]):=by kernel_rfl
theorem G89:(Ek.info? 46).bind (fun i=>i.zero.map Value.cells)=some (List.toArray [.int .i64 0,.int .i64 0,.int .i64 0,.int .u8 0]):=by kernel_rfl
theorem J61:(Ek.info? 62).bind (fun i=>i.zero.map Value.cells)=some (List.toArray [.slice none 0 0]):=by kernel_rfl
theorem J3c:Qh Ek 122 20=true:=by kernel_rfl
theorem J4b:Qh Ek 59 4=true:=by kernel_rfl
end XPF
open XAF
open XCF
open XGF
open XBF
open XPF

def G80 (s:Gu) (size:Int):Option Unit:=
 some ()
theorem J14 (s:Gu) (size:Int) (r:Unit) (h:G80 s size=some r):Pure Ek 35 [.agg (Gu.cs s),U8 size] (·=.fn 64 [.dptr (Gu.cs s),.dptr [U8 size]]):=by
 unfold G80 at h
 refine H1 [.tmp 4] Tryz.func35 O O (Jr fun hK1=>(JLh (.ptr 1074 0) (Jf (cs:=(Gu.cs s)) 1074 O O O O O) O (JLh (.ptr 1075 0) (Jf (cs:=[U8 size]) 1075 O O O O O) O (Rq (.sc .nilFunc) O (G7 (hK1 ?_))))))
 refine Gs [(2,Ec s),(3,.ptr 1075 0)] [(1075,.box 5 [U8 size])] 1074 rfl rfl rfl ⟨⟨_,rfl,.boxEq rfl rfl⟩,G⟩ rfl (by exact⟨.ptr,.conv (.same rfl),G⟩) (Gs [(2,Ec s),(3,.dptr [U8 size])] [] 1075 rfl rfl rfl G rfl (by exact⟨.conv (.same rfl),.ptr,G⟩) ?_)
 refine Jr fun hK2=>(JLh (.fn 64 [.dptr (Gu.cs s),.dptr [U8 size]]) (Yv (cs:=[.dptr (Gu.cs s),.dptr [U8 size]]) O O) O (Rq (.fn 64 [.dptr (Gu.cs s),.dptr [U8 size]]) O (G7 (hK2 ?_))))
 refine Gt (⟨[.fn 64 [.dptr (Gu.cs s),.dptr [U8 size]]],[],G,O,⟨⟨_,O,.conv (.same O)⟩,G⟩,O,congrArg (fun _:Unit=>(.fn 64 [.dptr (Gu.cs s),.dptr [U8 size]]:AV)) (Option.some.inj h)⟩)

def G9e (s:Gu) (size:Int):Option (List Slot):=
 bnd (G80 s size) fun r5=>
 bnd (G3a s size) fun ys8=>
 each (fun y8 i8 (s8:(List Slot)) nx8=>
  need (decide ((s8.length+[y8].length)*24≤140737488355328∧s8.length+[y8].length≤maxLen)) <|
  nx8 (s8++[y8]))
 (fun(s8:(List Slot))=>
  some s8) ys8 0 []
theorem M_slot_All_w (s:Gu) (size:Int) (r:(List Slot)) (h:G9e s size=some r):Pure Ek 12 [.agg (Gu.cs s),U8 size] (·=E8 r):=by
 unfold G9e at h
 refine H1 [.tmp 4] Tryz.func12 O O (Jr fun hK1=>(JLh (.ptr 1032 0) (Jf (cs:=(Gu.cs s)) 1032 O O O O O) O (JLh (E8 ([]:List Slot)) (Hj 3 O O) O (G7 (hK1 (Gs [(1,U8 size),(2,Ec s)] [] 1032 rfl rfl rfl G rfl (by exact⟨.conv (.same rfl),.ptr,G⟩) ?_))))))
 refine Jr fun hK2=>(JLh (.ptr 1033 0) (Ga4 1033 [.sc (.slice none 0 0)] [.slice none 0 0] J61 ⟨.inl O,G⟩ O O) O (J1a 1033 0 1035 44 3 O O O (cs':=[OW 1035 3 Slot.av ([]:List Slot)]) O (G7 (hK2 (Js fun hK3=>Jr fun hK4=>(JLh (.agg (Gu.cs s)) (Gk Hf O O O) O (Rq (U8 size) O ?_)))))))
 obtain⟨r5,hr5,h⟩:=Gg h
 refine JLh (.fn 64 [.dptr (Gu.cs s),.dptr [U8 size]]) (Gw O (J14 s size r5 hr5) J8a ⟨O,O,O,O,G⟩) O (G7 (hK4 (Gv ?_)))
 obtain⟨ys8,hy_8,h⟩:=Gg h
 obtain⟨b8,kx8,hb8,hkx8,h⟩:=Ja h
 refine J42 (ps:=[10]) [(5,.ptr 1033 0),(9,.fn 64 [.dptr (Gu.cs s),.dptr [U8 size]])] (ys8.map (fun y:Slot=>[.agg [G0 y.G3,G0 y.Tier,U8 y.Half]])) (fun i8 (s8:(List Slot))=>each b8 kx8 (List.drop i8 ys8) i8 s8=some r) (fun s8=>[(1035,.spare 44 3 s8.length s8.length),(1033,.box 62 [OW 1035 3 Slot.av s8])]) [] rfl rfl rfl J78 (H91.down s size ys8 hy_8) h ⟨⟨.same rfl,.same rfl,trivial⟩,⟨⟨_,rfl,.same⟩,⟨_,rfl,.boxL rfl ⟨.same rfl,trivial⟩⟩,trivial⟩,rfl⟩ rfl (fun us_ hus_=>by obtain⟨_,_,rfl⟩:=List.mem_map.1 hus_; rfl) (fun p_ hp_=>Nat.blt_eq.mp (by revert p_; decide)) (fun _=>⟨.same rfl,.same rfl,trivial⟩) (fun _=>rfl) ?_ ?_
 ·
  intro i8 us_ s8 hu_ hi8 lr_ K8 e8
  obtain⟨hk8,rfl⟩:=mapf_at hu_
  obtain⟨y8,nx8,hy8,hn8,h⟩:=Hu hi8 hk8
  replace h:=Zr hb8 h
  obtain⟨_,rfl⟩:=List.getElem?_eq_some_iff.1 hy8
  generalize ys8[i8]=y8 at h ⊢
  change JC _ _ _ _ [(10,.agg [G0 y8.G3,G0 y8.Tier,U8 y8.Half]),(5,.ptr 1033 0),(9,.fn 64 [.dptr (Gu.cs s),.dptr [U8 size]])] [(1035,.spare 44 3 s8.length s8.length),(1033,.box 62 [OW 1035 3 Slot.av s8])]
  refine G4 (JLh (.ptr 1034 0) (Jb 1034 3 G64 O O) O (J8 (u:=.junk) (Ht (u:=.agg [G0 y8.G3,G0 y8.Tier,U8 y8.Half]) (ds:=[G0 y8.G3,G0 y8.Tier,U8 y8.Half]) H3a O O O O O O O O) (G7 (Mid_freeze [(5,.ptr 1033 0),(6,.dptr [G0 y8.G3,G0 y8.Tier,U8 y8.Half])] [(1035,.spare 44 3 s8.length s8.length),(1033,.box 62 [OW 1035 3 Slot.av s8])] 1034 rfl rfl rfl ⟨⟨_,rfl,.same⟩,⟨_,rfl,.boxEq rfl rfl⟩,G⟩ rfl (by exact⟨.conv (.same rfl),.ptr,G⟩) (Mid_go (Gv (G4 (JLh (OW 1035 3 Slot.av s8) (Rc Gd2 O O O O) O (JLh (.agg [G0 y8.G3,G0 y8.Tier,U8 y8.Half]) (Gk Q2 O O O) O (JLh (E8 [y8]) (H9 (xs:=[.agg [G0 y8.G3,G0 y8.Tier,U8 y8.Half]]) O ⟨O,O,G⟩ Ri G64 O O O O) O ?_))))))))))
  obtain⟨ha9,h⟩:=Jm h
  refine JLh (OW 1035 3 Slot.av (s8++[y8])) (Yb (f:=Slot.av) (xs:=s8) (ys:=[y8]) O O O O Ri Hd6 ha9 (fun _=>O) (.inl O) O) O (J8 (u:=.junk) (Ht (u:=OW 1035 3 Slot.av (s8++[y8])) (ds:=[OW 1035 3 Slot.av (s8++[y8])]) J66 O O O O O O O O) (G7 (e8 _ _ (s8++[y8]) (app1 hn8 h) ⟨G,⟨⟨_,O,.same⟩,⟨_,O,.boxL O ⟨.same O,G⟩⟩,G⟩,O⟩)))
 ·
  intro s8 h
  rw [List.length_map] at h
  replace h:=app1 hkx8 (Hv h (Nat.lt_irrefl _))
  refine hK3 (Jr fun hK10=>(JLh (OW 1035 3 Slot.av s8) (Rc Gd2 O O O O) O (Rq (OW 1035 3 Slot.av s8) O (G7 (hK10 (Za (l':=[(4,E8 s8)]) (L':=[(1033,.box 62 [E8 s8])]) ⟨⟨.list O,G⟩,⟨⟨_,O,.boxL O ⟨.list O,G⟩⟩,G⟩,O⟩ (Gs [(4,E8 s8)] [] 1033 rfl rfl rfl G rfl (by exact⟨.conv (.same rfl),G⟩) (Gt (fin1 (fun r:(List Slot)=>(E8 r:AV)) h)))))))))

def Qp (s:Gu) (l:List Gy) (most:Int):Option ((List Ga)×(List Stowed)):=
 bnd (Gfa (min (l.length:Int) most) l.length) fun m6=>
 each (fun y7 i7 (s7:(List Ga)×(List Stowed)) nx7=>
  jp (fun kj10=>
   G15 (5*((i7+1:Nat):Int)) fun v13=>
   G15 (y7.Kilos) fun v14=>
   G15 (100*v14) fun v15=>
   G15 (1000+v15) fun v16=>
   jp (fun kj17=>
    bif y7.Small then
    (kj17 (20,false))
    else
    (kj17 (40,y7.High))) fun(j17:Int×Bool)=>
   need (decide ((s7.1.length+[(Ga.mk v13 ByteArray.empty j17.1 j17.2 v16 0 1 0 false)].length)*64≤140737488355328∧s7.1.length+[(Ga.mk v13 ByteArray.empty j17.1 j17.2 v16 0 1 0 false)].length≤maxLen)) <|
   bnd (G9e s j17.1) fun r22=>
   each (fun y49 i49 (s49:(List Stowed)) nx49=>
    need (decide ((([]:List Stowed).length+s49.length)*32≤140737488355328∧([]:List Stowed).length+s49.length≤maxLen)) <|
    need (decide (((([]:List Stowed)++s49).length+[(Stowed.mk v13 y49)].length)*32≤140737488355328∧(([]:List Stowed)++s49).length+[(Stowed.mk v13 y49)].length≤maxLen)) <|
    G15 (y7.G3) fun v58=>
    bnd (H62 v58 (s.Columns.length:Int)) fun v59=>
    bnd (bif decide (y49.G3=v59) then Ra s (s7.1++[(Ga.mk v13 ByteArray.empty j17.1 j17.2 v16 0 1 0 false)]) ((([]:List Stowed)++s49)++[(Stowed.mk v13 y49)]) else some default) fun r60=>
    bif ((decide (y49.G3=v59))&&r60) then
    (kj10 ((s7.1++[(Ga.mk v13 ByteArray.empty j17.1 j17.2 v16 0 1 0 false)]),((([]:List Stowed)++s49)++[(Stowed.mk v13 y49)])))
    else
    (nx49 s49))
   (fun(s49:(List Stowed))=>
    kj10 ((s7.1++[(Ga.mk v13 ByteArray.empty j17.1 j17.2 v16 0 1 0 false)]),s49)) r22 0 s7.2) fun(j10:(List Ga)×(List Stowed))=>
  nx7 (j10.1,j10.2))
 (fun(s7:(List Ga)×(List Stowed))=>
  some (s7.1,s7.2)) (l.take m6) 0 ([],[])
theorem Ga6 (s:Gu) (l:List Gy) (most:Int) (r:(List Ga)×(List Stowed)) (h:Qp s l most=some r):Pure Ek 5 [.agg (Gu.cs s),Ea l,G0 most] (·=.tup [E2 r.1,E1 r.2]):=by
 unfold Qp at h
 refine H1 [.tmp 6,.tmp 7] Tryz.func5 O O (Jr fun hK1=>(JLh (.ptr 1006 0) (Jf (cs:=(Gu.cs s)) 1006 O O O O O) O (JLh (E2 ([]:List Ga)) (Hj 9 O O) O (JLh (E1 ([]:List Stowed)) (Hj 4 O O) O (G7 (hK1 ?_))))))
 refine Gs [(1,Ea l),(2,G0 most),(3,Ec s)] [] 1006 rfl rfl rfl G rfl (by exact⟨.conv (.same rfl),.conv (.same rfl),.ptr,G⟩) (Jr fun hK2=>(JLh (OW 1007 9 Ga.av ([]:List Ga)) (G6d 1007 61 9 O O O) O (G7 (hK2 (Jr fun hK3=>(JLh (E1 ([]:List Stowed)) (Hj 4 O O) O (G7 (hK3 (Js fun hK4=>Jr fun hK5=>(Rq (Ea l) O (Rq (Ea l) O (JLl Ga9 O O O fun hm18=>(Rq (G0 most) O (JLh (G0 (min (l.length:Int) most)) (A_min O O O) O ?_))))))))))))))
 obtain⟨m6,hm6,h⟩:=Gg h
 refine JLh (Ea (l.take m6)) (H4f (f:=Gy.av) (xs:=l) O O O Ga9 (G4d hm6)) O (JLl Ga9 O O O fun hm22=>(Rq (G0 0) O (G7 (hK5 (Gv ?_)))))
 obtain⟨b7,kx7,hb7,hkx7,h⟩:=Ja h
 refine Hr (fun i7 (s7:(List Ga)×(List Stowed))=>each b7 kx7 (List.drop i7 (l.take m6)) i7 s7=some r) (fun i7 s7=>[(3,Ec s),(8,OW 1007 9 Ga.av s7.1),(9,E1 s7.2),(21,Ea (l.take m6)),(22,G0 ((l.take m6).length:Int)),(23,Ej i7)]) (fun i7 s7=>[(1007,.spare 61 9 s7.1.length s7.1.length)]) (fun i7=>(l.take m6).length - i7) 0 ([],[]) h ⟨(by repeat' constructor),⟨⟨_,rfl,.same⟩,G⟩,rfl⟩ ?_
 clear h
 intro i7 s7 hi7 K7 e7
 refine Jr fun hK8=>(JLh (BL (decide ((i7:Int) < ((l.take m6).length:Int)))) (Jc O O O) O (G7 (hK8 (Js fun hK9=>Gm O (fun hb=>?_) (fun hb=>?_)))))
 ·
  have hk7:=Jz hb
  obtain⟨y7,nx7,hy7,hn7,h⟩:=Hu hi7 hk7
  replace h:=Zr hb7 h
  refine Gp (hK9 ?_)
  obtain⟨kj10,hkj10,h⟩:=Yo h
  refine Rb (fun j10:(List Ga)×(List Stowed)=>kj10 j10=some r) (fun j10=>[(3,Ec s),(8,OW 1007 9 Ga.av j10.1),(9,E1 j10.2),(21,Ea (l.take m6)),(22,G0 ((l.take m6).length:Int)),(23,Ej i7)]) (fun j10=>[(1007,.spare 61 9 j10.1.length j10.1.length)]) (fun Kj10 ej10=>?_) ?_
  ·
   refine Gv (Jr fun hK11=>(Rq (Ej i7) O (JLh (Eg y7) (He (f:=Gy.av) (xs:=(l.take m6)) (y:=y7) O O O Ga9 hy7 O) O (JLh (.agg (Gy.cs y7)) (Gk tf_agg_59 O O O) O (JLh (.ptr 1008 0) (Jb 1008 4 J4b O O) O (Rq (Ej i7) O (J8 (u:=.junk) (Ht (u:=.agg (Gy.cs y7)) (ds:=[U8 y7.G3,U8 y7.Kilos,BL y7.Small,BL y7.High]) J67 O O O O O O O O) (G7 (hK11 ?_)))))))))
   refine Gs [(3,Ec s),(8,OW 1007 9 Ga.av s7.1),(9,E1 s7.2),(10,Ej i7),(11,Eg y7),(21,Ea (l.take m6)),(22,G0 ((l.take m6).length:Int)),(23,Ej i7)] [(1007,.spare 61 9 s7.1.length s7.1.length)] 1008 rfl rfl rfl ⟨⟨_,rfl,.same⟩,G⟩ rfl (by repeat' (first | exact .ptr | constructor)) (Jr fun hK12=>(Rq (Ej i7) O (JLh (G0 ((i7+1:Nat):Int)) (J0 (Ho hk7 hm22) O O O) O ?_)))
   obtain⟨v13,hv13,h⟩:=Jj h
   refine JLh (G0 v13) (J3a hv13 O O O) O (JLh (.dptr [BL y7.High]) (Gd J2f O O O) O (JLh (BL y7.High) (Gi Qn O O O) O (JLh (.dptr [U8 y7.Kilos,BL y7.Small,BL y7.High]) (Gd J31 O O O) O (JLh (U8 y7.Kilos) (Gi J5 O O O) O ?_))))
   obtain⟨v14,hv14,h⟩:=Jj h
   refine JLh (G0 v14) (H50 G8b Gf1 hv14 O O) O ?_
   obtain⟨v15,hv15,h⟩:=Jj h
   refine JLh (G0 v15) (J3a hv15 O O O) O ?_
   obtain⟨v16,hv16,h⟩:=Jj h
   refine JLh (G0 v16) (J0 hv16 O O O) O (JLh (.agg [G0 v13,ST ByteArray.empty,U8 40,BL y7.High,G0 v16,G0 0,G0 1,U8 0,BL false]) (Hp (cs:=[G0 v13,ST ByteArray.empty,U8 40,BL y7.High,G0 v16,G0 0,G0 1,U8 0,BL false]) [(0,1),(1,1),(2,1),(3,1),(4,1),(5,1),(6,1),(7,1),(8,1)] [G0 0,ST ByteArray.empty,U8 0,BL false,G0 0,G0 0,G0 0,U8 0,BL false] [.int .i64 0,.string ByteArray.empty,.int .u8 0,.bool false,.int .i64 0,.int .i64 0,.int .i64 0,.int .u8 0,.bool false] Ry Yk ⟨.inl O,.inl O,.inl O,.inl O,.inl O,.inl O,.inl O,.inl O,.inl O,G⟩ O O) O (JLh (.ptr 1009 0) (Jb 1009 9 G27 O O) O (J8 (u:=.junk) (Ht (u:=.agg [G0 v13,ST ByteArray.empty,U8 40,BL y7.High,G0 v16,G0 0,G0 1,U8 0,BL false]) (ds:=[G0 v13,ST ByteArray.empty,U8 40,BL y7.High,G0 v16,G0 0,G0 1,U8 0,BL false]) G48 O O O O O O O O) (G7 (hK12 ?_)))))
   obtain⟨kj17,hkj17,h⟩:=Yo h
   refine Rb (fun j17:Int×Bool=>kj17 j17=some r) (fun j17=>[(3,Ec s),(8,OW 1007 9 Ga.av s7.1),(9,E1 s7.2),(11,Eg y7),(12,.ptr 1009 0),(21,Ea (l.take m6)),(22,G0 ((l.take m6).length:Int)),(23,Ej i7)]) (fun j17=>[(1007,.spare 61 9 s7.1.length s7.1.length),(1009,.box 61 [G0 v13,ST ByteArray.empty,U8 j17.1,BL j17.2,G0 v16,G0 0,G0 1,U8 0,BL false])]) (fun Kj17 ej17=>?_) ?_
   ·
    refine Jr fun hK18=>(JLh (.dptr [BL y7.Small,BL y7.High]) (Gd J30 O O O) O (JLh (BL y7.Small) (Gi Qn O O O) O (G7 (hK18 (JCc O h (fun h hb=>?_) (fun h hb=>?_))))))
    ·
     refine G4 (JLh (.ptr 1009 2) (Q7 Zg O O) O (J8 (u:=.junk) (Ht (u:=U8 20) (ds:=[G0 v13,ST ByteArray.empty,U8 20,BL y7.High,G0 v16,G0 0,G0 1,U8 0,BL false]) tf_size_5 O O O O O O O O) (JLh (.ptr 1009 3) (Q7 H29 O O) O (J8 (u:=.junk) (Ht (u:=BL false) (ds:=[G0 v13,ST ByteArray.empty,U8 20,BL false,G0 v16,G0 0,G0 1,U8 0,BL false]) tf_size_4 O O O O O O O O) (G7 (ej17 _ _ (20,false) h ⟨(by repeat' constructor),⟨⟨_,rfl,.same⟩,⟨_,rfl,.boxL rfl (by repeat' constructor)⟩,G⟩,rfl⟩))))))
    ·
     refine Gp (ej17 _ _ (40,y7.High) h ⟨(by repeat' constructor),⟨⟨_,rfl,.same⟩,⟨_,rfl,.boxL rfl (by repeat' constructor)⟩,G⟩,rfl⟩)
   ·intro j17 h
    replace h:=app1 hkj17 h
    refine Jr fun hK19=>(Rq (OW 1007 9 Ga.av s7.1) O (JLh (.agg [G0 v13,ST ByteArray.empty,U8 j17.1,BL j17.2,G0 v16,G0 0,G0 1,U8 0,BL false]) (Ge7 G86 O O O O) O (JLh (E2 [(Ga.mk v13 ByteArray.empty j17.1 j17.2 v16 0 1 0 false)]) (H9 (xs:=[.agg [G0 v13,ST ByteArray.empty,U8 j17.1,BL j17.2,G0 v16,G0 0,G0 1,U8 0,BL false]]) O ⟨O,O,G⟩ G28 G27 O O O O) O ?_)))
    obtain⟨ha20,h⟩:=Jm h
    refine JLh (OW 1007 9 Ga.av (s7.1++[(Ga.mk v13 ByteArray.empty j17.1 j17.2 v16 0 1 0 false)])) (Yb (f:=Ga.av) (xs:=s7.1) (ys:=[(Ga.mk v13 ByteArray.empty j17.1 j17.2 v16 0 1 0 false)]) O O O O G28 J68 ha20 (fun _=>O) (.inl O) O) O (Rq (OW 1007 9 Ga.av (s7.1++[(Ga.mk v13 ByteArray.empty j17.1 j17.2 v16 0 1 0 false)])) O (G7 (hK19 ?_)))
    refine Gs [(3,Ec s),(8,OW 1007 9 Ga.av (s7.1++[(Ga.mk v13 ByteArray.empty j17.1 j17.2 v16 0 1 0 false)])),(9,E1 s7.2),(11,Eg y7),(12,.dptr [G0 v13,ST ByteArray.empty,U8 j17.1,BL j17.2,G0 v16,G0 0,G0 1,U8 0,BL false]),(21,Ea (l.take m6)),(22,G0 ((l.take m6).length:Int)),(23,Ej i7)] [(1007,.spare 61 9 (s7.1++[(Ga.mk v13 ByteArray.empty j17.1 j17.2 v16 0 1 0 false)]).length (s7.1++[(Ga.mk v13 ByteArray.empty j17.1 j17.2 v16 0 1 0 false)]).length)] 1009 rfl rfl rfl ⟨⟨_,rfl,.same⟩,G⟩ rfl (by repeat' (first | exact .ptr | constructor)) ?_
    refine Jr fun hK21=>(JLh (.agg (Gu.cs s)) (Gk Hf O O O) O (JLh (.dptr [U8 j17.1,BL j17.2,G0 v16,G0 0,G0 1,U8 0,BL false]) (Gd Zg O O O) O (JLh (U8 j17.1) (Gi J5 O O O) O ?_)))
    obtain⟨r22,hr22,h⟩:=Gg h
    refine JLh (E8 r22) (Gw O (M_slot_All_w s j17.1 r22 hr22) J90 ⟨O,O,O,O,G⟩) O (JLl Ri O O O fun hm51=>(Rq (G0 0) O (G7 (hK21 (Gv ?_)))))
    obtain⟨b49,kx49,hb49,hkx49,h⟩:=Ja h
    refine Hr (fun i49 (s49:(List Stowed))=>each b49 kx49 (List.drop i49 r22) i49 s49=some r) (fun i49 s49=>[(3,Ec s),(8,OW 1007 9 Ga.av (s7.1++[(Ga.mk v13 ByteArray.empty j17.1 j17.2 v16 0 1 0 false)])),(9,E1 s49),(11,Eg y7),(12,.dptr [G0 v13,ST ByteArray.empty,U8 j17.1,BL j17.2,G0 v16,G0 0,G0 1,U8 0,BL false]),(21,Ea (l.take m6)),(22,G0 ((l.take m6).length:Int)),(23,Ej i7),(50,E8 r22),(51,Ej r22.length),(52,Ej i49)]) (fun i49 s49=>[(1007,.spare 61 9 (s7.1++[(Ga.mk v13 ByteArray.empty j17.1 j17.2 v16 0 1 0 false)]).length (s7.1++[(Ga.mk v13 ByteArray.empty j17.1 j17.2 v16 0 1 0 false)]).length)]) (fun i49=>r22.length - i49) 0 s7.2 h ⟨(by repeat' constructor),⟨⟨_,rfl,.same⟩,G⟩,rfl⟩ ?_
    clear h
    intro i49 s49 hi49 K49 e49
    refine Jr fun hK50=>(JLh (BL (decide ((i49:Int) < (r22.length:Int)))) (Jc O O O) O (G7 (hK50 (Js fun hK51=>Gm O (fun hb=>?_) (fun hb=>?_)))))
    ·
     have hk49:=Jz hb
     obtain⟨y49,nx49,hy49,hn49,h⟩:=Hu hi49 hk49
     replace h:=Zr hb49 h
     refine Gp (hK51 (Js fun hK52=>Gv (Jr fun hK53=>(JLh (Ei y49) (He (f:=Slot.av) (xs:=r22) (y:=y49) O O O Ri hy49 O) O (JLh (.agg (Slot.cs y49)) (Gk Q2 O O O) O (JLh (.ptr 1010 0) (Jb 1010 3 G64 O O) O (J8 (u:=.junk) (Ht (u:=.agg (Slot.cs y49)) (ds:=[G0 y49.G3,G0 y49.Tier,U8 y49.Half]) H3a O O O O O O O O) (G7 (hK53 ?_)))))))))
     refine Gs [(3,Ec s),(8,OW 1007 9 Ga.av (s7.1++[(Ga.mk v13 ByteArray.empty j17.1 j17.2 v16 0 1 0 false)])),(9,E1 s49),(11,Eg y7),(12,.dptr [G0 v13,ST ByteArray.empty,U8 j17.1,BL j17.2,G0 v16,G0 0,G0 1,U8 0,BL false]),(14,Ei y49),(21,Ea (l.take m6)),(22,G0 ((l.take m6).length:Int)),(23,Ej i7),(50,E8 r22),(51,Ej r22.length),(52,Ej i49)] [(1007,.spare 61 9 (s7.1++[(Ga.mk v13 ByteArray.empty j17.1 j17.2 v16 0 1 0 false)]).length (s7.1++[(Ga.mk v13 ByteArray.empty j17.1 j17.2 v16 0 1 0 false)]).length)] 1010 rfl rfl rfl ⟨⟨_,rfl,.same⟩,G⟩ rfl (by repeat' (first | exact .ptr | constructor)) ?_
     refine Js fun hK54=>?_
     refine Za (l':=[(3,Ec s),(8,OW 1007 9 Ga.av (s7.1++[(Ga.mk v13 ByteArray.empty j17.1 j17.2 v16 0 1 0 false)])),(9,E1 s49),(11,Eg y7),(12,.dptr [G0 v13,ST ByteArray.empty,U8 j17.1,BL j17.2,G0 v16,G0 0,G0 1,U8 0,BL false]),(14,Ei y49),(21,Ea (l.take m6)),(22,G0 ((l.take m6).length:Int)),(23,Ej i7),(50,E8 r22),(51,Ej r22.length),(52,Ej i49)]) (L':=[(1007,.spare 61 9 (s7.1++[(Ga.mk v13 ByteArray.empty j17.1 j17.2 v16 0 1 0 false)]).length (s7.1++[(Ga.mk v13 ByteArray.empty j17.1 j17.2 v16 0 1 0 false)]).length)]) ⟨(by repeat' constructor),⟨⟨_,rfl,.same⟩,G⟩,rfl⟩ ?_
     obtain⟨ha55,h⟩:=Jm h
     obtain⟨ha56,h⟩:=Jm h
     refine Q9 [0,2,8] [0,0,0,0,0,0,0,0,0,3] [0,1,0,2,2,2,2,2,0,3] [[(1007,.spare 61 9 (s7.1++[(Ga.mk v13 ByteArray.empty j17.1 j17.2 v16 0 1 0 false)]).length (s7.1++[(Ga.mk v13 ByteArray.empty j17.1 j17.2 v16 0 1 0 false)]).length)],((1011,.spare 46 4 ([]:List Stowed).length ([]:List Stowed).length)::[(1007,.spare 61 9 (s7.1++[(Ga.mk v13 ByteArray.empty j17.1 j17.2 v16 0 1 0 false)]).length (s7.1++[(Ga.mk v13 ByteArray.empty j17.1 j17.2 v16 0 1 0 false)]).length)]),((1011,.spare 46 4 (([]:List Stowed)++s49).length (([]:List Stowed)++s49).length)::((1011,.spare 46 4 ([]:List Stowed).length ([]:List Stowed).length)::[(1007,.spare 61 9 (s7.1++[(Ga.mk v13 ByteArray.empty j17.1 j17.2 v16 0 1 0 false)]).length (s7.1++[(Ga.mk v13 ByteArray.empty j17.1 j17.2 v16 0 1 0 false)]).length)])),((1011,.spare 46 4 ((([]:List Stowed)++s49)++[(Stowed.mk v13 y49)]).length ((([]:List Stowed)++s49)++[(Stowed.mk v13 y49)]).length)::((1011,.spare 46 4 (([]:List Stowed)++s49).length (([]:List Stowed)++s49).length)::((1011,.spare 46 4 ([]:List Stowed).length ([]:List Stowed).length)::[(1007,.spare 61 9 (s7.1++[(Ga.mk v13 ByteArray.empty j17.1 j17.2 v16 0 1 0 false)]).length (s7.1++[(Ga.mk v13 ByteArray.empty j17.1 j17.2 v16 0 1 0 false)]).length)])))] Qo (by kernel_rfl) rfl rfl ?_
     refine D_w (u:=OW 1011 4 Stowed.av ([]:List Stowed)) O O O O (Gx (J21 1011 46 4 O O Hd) O) (Gq (u:=E1 s49) O O ⟨Gx (G6 O O) O,Gx (G6 O O) O,G⟩ (D_w (u:=OW 1011 4 Stowed.av (([]:List Stowed)++s49)) O O O O (Gx (H9a (f:=Stowed.av) (xs:=([]:List Stowed)) (ys:=s49) O O O O Hd Gd5 ha55 (fun _=>O) (.inl O)) O) (Gq (u:=.dptr [G0 v13,ST ByteArray.empty,U8 j17.1,BL j17.2,G0 v16,G0 0,G0 1,U8 0,BL false]) O O ⟨Gx (Gd G59 O O O) O,Gx (Gd G59 O O O) O,Gx (Gd G59 O O O) O,G⟩ (Gq (u:=G0 v13) O O ⟨Gx (Gi Ge O O O) O,Gx (Gi Ge O O O) O,Gx (Gi Ge O O O) O,G⟩ (Gq (u:=.agg (Slot.cs y49)) O O ⟨Gx (Gk Q2 O O O) O,Gx (Gk Q2 O O O) O,Gx (Gk Q2 O O O) O,G⟩ (Gq (u:=.agg [G0 v13,G0 y49.G3,G0 y49.Tier,U8 y49.Half]) O O ⟨Gx (Hp (cs:=[G0 v13,G0 y49.G3,G0 y49.Tier,U8 y49.Half]) [(0,1),(1,3)] [G0 0,G0 0,G0 0,U8 0] [.int .i64 0,.int .i64 0,.int .i64 0,.int .u8 0] G79 G89 ⟨.inl O,.inl O,.inl O,.inl O,G⟩ O O) O,Gx (Hp (cs:=[G0 v13,G0 y49.G3,G0 y49.Tier,U8 y49.Half]) [(0,1),(1,3)] [G0 0,G0 0,G0 0,U8 0] [.int .i64 0,.int .i64 0,.int .i64 0,.int .u8 0] G79 G89 ⟨.inl O,.inl O,.inl O,.inl O,G⟩ O O) O,Gx (Hp (cs:=[G0 v13,G0 y49.G3,G0 y49.Tier,U8 y49.Half]) [(0,1),(1,3)] [G0 0,G0 0,G0 0,U8 0] [.int .i64 0,.int .i64 0,.int .i64 0,.int .u8 0] G79 G89 ⟨.inl O,.inl O,.inl O,.inl O,G⟩ O O) O,G⟩ (Gq (u:=E1 [(Stowed.mk v13 y49)]) O O ⟨Gx (H9 (xs:=[.agg [G0 v13,G0 y49.G3,G0 y49.Tier,U8 y49.Half]]) O ⟨O,O,G⟩ Hd Rg O O O O) O,Gx (H9 (xs:=[.agg [G0 v13,G0 y49.G3,G0 y49.Tier,U8 y49.Half]]) O ⟨O,O,G⟩ Hd Rg O O O O) O,Gx (H9 (xs:=[.agg [G0 v13,G0 y49.G3,G0 y49.Tier,U8 y49.Half]]) O ⟨O,O,G⟩ Hd Rg O O O O) O,G⟩ (D_w (u:=OW 1011 4 Stowed.av ((([]:List Stowed)++s49)++[(Stowed.mk v13 y49)])) O O O O (Gx (Yb (f:=Stowed.av) (xs:=(([]:List Stowed)++s49)) (ys:=[(Stowed.mk v13 y49)]) O O O O Hd Gd5 ha56 (fun _=>O) (.inl O) O) O) (Gq (u:=OW 1011 4 Stowed.av ((([]:List Stowed)++s49)++[(Stowed.mk v13 y49)])) O O ⟨Gx (G8 O O) O,G⟩ (Z7 ?_))))))))))
     refine hK54 (Js fun hK57=>?_)
     refine Za (l':=[(3,Ec s),(8,OW 1007 9 Ga.av (s7.1++[(Ga.mk v13 ByteArray.empty j17.1 j17.2 v16 0 1 0 false)])),(9,E1 s49),(11,Eg y7),(12,.dptr [G0 v13,ST ByteArray.empty,U8 j17.1,BL j17.2,G0 v16,G0 0,G0 1,U8 0,BL false]),(14,Ei y49),(15,OW 1011 4 Stowed.av ((([]:List Stowed)++s49)++[(Stowed.mk v13 y49)])),(21,Ea (l.take m6)),(22,G0 ((l.take m6).length:Int)),(23,Ej i7),(50,E8 r22),(51,Ej r22.length),(52,Ej i49)]) (L':=[(1007,.spare 61 9 (s7.1++[(Ga.mk v13 ByteArray.empty j17.1 j17.2 v16 0 1 0 false)]).length (s7.1++[(Ga.mk v13 ByteArray.empty j17.1 j17.2 v16 0 1 0 false)]).length),(1011,.spare 46 4 ((([]:List Stowed)++s49)++[(Stowed.mk v13 y49)]).length ((([]:List Stowed)++s49)++[(Stowed.mk v13 y49)]).length)]) ⟨(by repeat' constructor),⟨⟨_,rfl,.same⟩,⟨_,rfl,.same⟩,G⟩,rfl⟩ ?_
     obtain⟨v58,hv58,h⟩:=Jj h
     obtain⟨v59,hv59,h⟩:=Gg h
     obtain⟨r60,hr60,h⟩:=Gg h
     refine JC_d0 Qo (by kernel_rfl) (Dq (Ei y49) (Gd Jd O O O) O (Dq (G0 y49.G3) (Gi Ge O O O) O (Dq (Eg y7) (Gd J32 O O O) O (Dq (U8 y7.G3) (Gi J5 O O O) O (Dq (G0 v58) (H50 G8b Gf1 hv58 O O) O (Dq (Ec s) (Gd Hq O O O) O (Dq (E7 s.Columns) (Gi J6 O O O) O (Dq (Ej s.Columns.length) (Z6 (f:=G3.av) (xs:=s.Columns) Hx O O) O (Dq (G0 v59) (J59 (Zj hv59).1 (Zj hv59).2 O O O) O (Dq (BL (decide (y49.G3=v59))) (Qc O O O) O (Dq (BL (decide (y49.G3=v59))) (G6 O O) O (Do (.agg (Gu.cs s)) [] O .sct G (fun hc=>Gk Hf O O O) O (Do (OW 1007 9 Ga.av (s7.1++[(Ga.mk v13 ByteArray.empty j17.1 j17.2 v16 0 1 0 false)])) [] O .sct G (fun hc=>G6 O O) O ?_)))))))))))))
     refine Do (OW 1011 4 Stowed.av ((([]:List Stowed)++s49)++[(Stowed.mk v13 y49)])) [] O .sct G (fun hc=>G6 O O) O (Do (BL r60) [76,77,78] O .sct ⟨Ua,Ua,Ua,G⟩ (fun hc=>Gw (args:=[.agg (Gu.cs s),E2 (s7.1++[(Ga.mk v13 ByteArray.empty j17.1 j17.2 v16 0 1 0 false)]),E1 ((([]:List Stowed)++s49)++[(Stowed.mk v13 y49)])]) O (G3c s (s7.1++[(Ga.mk v13 ByteArray.empty j17.1 j17.2 v16 0 1 0 false)]) ((([]:List Stowed)++s49)++[(Stowed.mk v13 y49)]) r60 (H6 hc hr60)) H14 ⟨O,O,O,O,O,O,G⟩) O (Dq (BL ((decide (y49.G3=v59))&&r60)) (Qu O O O O) O (Dnil ?_)))
     refine hK57 (JCc O h (fun h hb=>?_) (fun h hb=>?_))
     ·
      refine Jr fun hK61=>(Rq (OW 1011 4 Stowed.av ((([]:List Stowed)++s49)++[(Stowed.mk v13 y49)])) O (Rq (OW 1011 4 Stowed.av ((([]:List Stowed)++s49)++[(Stowed.mk v13 y49)])) O (G7 (hK61 (Hy (ej10 _ _ ((s7.1++[(Ga.mk v13 ByteArray.empty j17.1 j17.2 v16 0 1 0 false)]),((([]:List Stowed)++s49)++[(Stowed.mk v13 y49)])) h ⟨⟨.same O,.same O,.list O,.same O,.same O,.same O,G⟩,⟨⟨_,O,.same⟩,G⟩,O⟩))))))
     ·
      refine Gp (hK52 (G4 (JLh (G0 ((i49+1:Nat):Int)) (J0 (Ho hk49 hm51) O O O) O (Rq (G0 ((i49+1:Nat):Int)) O (G7 (e49 _ _ (i49+1) s49 (app1 hn49 h) (by omega) ⟨(by repeat' constructor),⟨⟨_,rfl,.same⟩,G⟩,rfl⟩))))))
    ·
     have h:=app1 hkx49 (Hv hi49 (Hi hb))
     refine Hy (ej10 _ _ ((s7.1++[(Ga.mk v13 ByteArray.empty j17.1 j17.2 v16 0 1 0 false)]),s49) h ⟨(by repeat' constructor),⟨⟨_,rfl,.same⟩,G⟩,rfl⟩)
  ·intro j10 h
   replace h:=app1 hkj10 h
   refine G4 (JLh (G0 ((i7+1:Nat):Int)) (J0 (Ho hk7 hm22) O O O) O (Rq (G0 ((i7+1:Nat):Int)) O (G7 (e7 _ _ (i7+1) (j10.1,j10.2) (app1 hn7 h) (by omega) ⟨(by repeat' constructor),⟨⟨_,rfl,.same⟩,G⟩,rfl⟩))))
 ·
  have h:=app1 hkx7 (Hv hi7 (Hi hb))
  refine Hy (hK4 (Jr fun hK62=>(Rq (OW 1007 9 Ga.av s7.1) O (Rq (E1 s7.2) O (Rq (OW 1007 9 Ga.av s7.1) O (Rq (E1 s7.2) O (G7 (hK62 (Gt (⟨[E2 s7.1,E1 s7.2],[],G,O,⟨⟨_,O,.conv (.list O)⟩,⟨_,O,.conv (.same O)⟩,G⟩,O,congrArg (fun r:(List Ga)×(List Stowed)=>(.tup [E2 r.1,E1 r.2]:AV)) (Option.some.inj h)⟩))))))))))

def Zf (x:Int):Option Bool:=
 some (decide (x≠x))
theorem Gaf (x:Int) (r:Bool) (h:Zf x=some r):Pure Ek 100 [G0 x] (·=BL r):=by
 unfold Zf at h
 refine H1 [.tmp 2] Tryz.func100 O O (Jr fun hK1=>(Rq (BL false) O (G7 (hK1 (Jr fun hK2=>(Rq (G0 x) O (Rq (G0 x) O (JLh (BL (decide (x≠x))) (H12 O O O) O (Rq (BL (decide (x≠x))) O (G7 (hK2 (Gt (fin1 BL h)))))))))))))

def G04 (x:Int) (y:Int):Option Bool:=
 bnd (Zf x) fun r3=>
 bnd (bif r3 then Zf y else some default) fun r4=>
 some ((r3&&(!r4))||(decide (x < y)))
theorem H96 (x:Int) (y:Int) (r:Bool) (h:G04 x y=some r):Pure Ek 76 [G0 x,G0 y] (·=BL r):=by
 unfold G04 at h
 refine H1 [.tmp 4] Tryz.func76 O O (Jr fun hK1=>(Rq (BL false) O (G7 (hK1 (Jr fun hK2=>(Rq (G0 x) O ?_))))))
 obtain⟨r3,hr3,h⟩:=Gg h
 refine JLh (BL r3) (Gw O (Gaf x r3 hr3) H9c ⟨O,O,G⟩) O (Rq (BL r3) O (JLo (G0 y) [] O .sct G (fun hc=>G6 O O) O ?_))
 obtain⟨r4,hr4,h⟩:=Gg h
 refine JLo (BL r4) [8] O .sct ⟨Ua,G⟩ (fun hc=>Gw (args:=[G0 y]) O (Gaf y r4 (H6 hc hr4)) H9c ⟨O,O,G⟩) O (JLo (BL (!r4)) [9] O .sct ⟨Ua,G⟩ (fun hc=>G06 (b:=r4) O O) O (JLh (BL (r3&&(!r4))) (Qu O O O O) O (Rq (BL (r3&&(!r4))) O (JLo (G0 x) [] O .scf G (fun hc=>G6 O O) O (JLo (G0 y) [] O .scf G (fun hc=>G6 O O) O (JLo (BL (decide (x < y))) [13,14] O .scf ⟨Ua,Ua,G⟩ (fun hc=>Jc O O O) O (JLh (BL ((r3&&(!r4))||(decide (x < y)))) (G44 O O O O) O (Rq (BL ((r3&&(!r4))||(decide (x < y)))) O (G7 (hK2 (Gt (fin1 BL h))))))))))))

def Y7 (x:Int):Option Bool:=
 some (decide (x≠x))
theorem G6a (x:Int) (r:Bool) (h:Y7 x=some r):Pure Ek 81 [G0 x] (·=BL r):=by
 unfold Y7 at h
 refine H1 [.tmp 2] Tryz.func81 O O (Jr fun hK1=>(Rq (BL false) O (G7 (hK1 (Jr fun hK2=>(Rq (G0 x) O (Rq (G0 x) O (JLh (BL (decide (x≠x))) (H12 O O O) O (Rq (BL (decide (x≠x))) O (G7 (hK2 (Gt (fin1 BL h)))))))))))))

def Qb (F:Nat) (x:List Int) (target:Int):Option (Int×Bool):=
 loop (fun nx16 (s16:Int×Int)=>
  bif decide (s16.1 < s16.2) then
  (G15 (s16.1+s16.2) fun v20=>
   G15 (Gb7 .u64 (IntKind.u64.wrap v20) 1) fun v21=>
   Z1 x v21 fun y23=>
   bnd (G04 y23 target) fun r25=>
   bif r25 then
   (G15 (v21+1) fun v26=>
    nx16 (v26,s16.2))
   else
   (nx16 (s16.1,v21)))
  else
  (bnd (bif decide (s16.1 < (x.length:Int)) then Z1 x s16.1 some else some default) fun y28=>
   bnd (bif ((decide (s16.1 < (x.length:Int)))&&!(decide (y28=target))) then Z1 x s16.1 some else some default) fun y29=>
   bnd (bif ((decide (s16.1 < (x.length:Int)))&&!(decide (y28=target))) then Y7 y29 else some default) fun r30=>
   bnd (bif (((decide (s16.1 < (x.length:Int)))&&!(decide (y28=target)))&&r30) then Y7 target else some default) fun r31=>
   some (s16.1,((decide (s16.1 < (x.length:Int)))&&((decide (y28=target))||(r30&&r31)))))) F (0,(x.length:Int))
theorem G83 (F:Nat) (x:List Int) (target:Int) (r:Int×Bool) (h:Qb F x target=some r):Pure Ek 44 [E0 x,G0 target] (·=.tup [G0 r.1,BL r.2]):=by
 unfold Qb at h
 refine H1 [.tmp 4,.tmp 5] Tryz.func44 O O (Jr fun hK1=>(Rq (G0 0) O (Rq (BL false) O (G7 (hK1 (Jr fun hK2=>(Rq (E0 x) O (JLl Gj O O O fun hm11=>(Rq (Ej x.length) O (G7 (hK2 (Jr fun hK3=>(Rq (Ej x.length) O (Rq (G0 0) O (Rq (Ej x.length) O (G7 (hK3 (Js fun hK4=>Gv ?_))))))))))))))))))
 obtain⟨b16,hb16,h⟩:=loop_in h
 refine Hr (fun i16 (s16:Int×Int)=>loop b16 i16 s16=some r) (fun i16 s16=>[(0,E0 x),(1,G0 target),(6,Ej x.length),(7,G0 s16.1),(8,G0 s16.2)]) (fun i16 s16=>[]) (fun i16=>i16) F (0,(x.length:Int)) h ⟨(by repeat' constructor),G,rfl⟩ ?_
 clear h
 intro i16 s16 hi16 K16 e16
 obtain⟨m16,nx16,hm_16,hn16,h⟩:=Hff hi16
 replace h:=app2 hb16 h
 refine Js fun hK17=>Jr fun hK18=>(Rq (G0 s16.1) O (Rq (G0 s16.2) O (JLh (BL (decide (s16.1 < s16.2))) (Jc O O O) O (G7 (hK18 (JCc O h (fun h hb=>?_) (fun h hb=>?_)))))))
 ·
  refine Gp (hK17 (Gv (Jr fun hK19=>(Rq (G0 s16.1) O (Rq (G0 s16.2) O ?_)))))
  obtain⟨v20,hv20,h⟩:=Jj h
  refine JLh (G0 v20) (J0 hv20 O O O) O (JLh (.sc (.int .u64 (IntKind.u64.wrap v20))) (H50 Hd0 G8b O O O) O (JLh (.sc (.int .u64 (Gb7 .u64 (IntKind.u64.wrap v20) 1))) (J20 (s:=1) O O O O) O ?_))
  obtain⟨v21,hv21,h⟩:=Jj h
  refine JLh (G0 v21) (H50 G8b Hd0 hv21 O O) O (Rq (G0 v21) O (G7 (hK19 (Jr fun hK22=>(Rq (E0 x) O (Rq (G0 v21) O ?_))))))
  obtain⟨m24,y23,hm24,hy23,h⟩:=Z0 h
  refine JLh (.dptr [G0 y23]) (He (f:=G0) (xs:=x) (y:=y23) O O O Gj hy23 hm24) O (JLh (G0 y23) (Gi Ge O O O) O (Rq (G0 target) O ?_))
  obtain⟨r25,hr25,h⟩:=Gg h
  refine JLh (BL r25) (Gw O (H96 y23 target r25 hr25) J73 ⟨O,O,O,O,G⟩) O (G7 (hK22 (JCc O h (fun h hb=>?_) (fun h hb=>?_))))
  ·
   refine G4 (Rq (G0 v21) O ?_)
   obtain⟨v26,hv26,h⟩:=Jj h
   refine JLh (G0 v26) (J0 hv26 O O O) O (Rq (G0 v26) O (G7 (e16 _ _ m16 (v26,s16.2) (app1 hn16 h) (by omega) ⟨(by repeat' constructor),G,rfl⟩)))
  ·
   refine G4 (Rq (G0 v21) O (Rq (G0 v21) O (G7 (e16 _ _ m16 (s16.1,v21) (app1 hn16 h) (by omega) ⟨(by repeat' constructor),G,rfl⟩))))
 ·
  refine Hy (hK4 (Jr fun hK27=>(Rq (G0 s16.1) O (Rq (G0 s16.1) O (Rq (Ej x.length) O (JLh (BL (decide (s16.1 < (x.length:Int)))) (Jc O O O) O (Rq (BL (decide (s16.1 < (x.length:Int)))) O (JLo (E0 x) [] O .sct G (fun hc=>G6 O O) O (JLo (G0 s16.1) [] O .sct G (fun hc=>G6 O O) O ?_)))))))))
  obtain⟨y28,hy28,h⟩:=Gg h
  refine JLo (.dptr [G0 y28]) [36,37] O .sct ⟨Ua,Ua,G⟩ (fun hc=>(match Ya (H6 hc hy28) with | ⟨_,hm_,hy_⟩=>He (f:=G0) (xs:=x) (y:=y28) O O O Gj hy_ hm_)) O (JLo (G0 y28) [38] O .sct ⟨Ua,G⟩ (fun hc=>Gi Ge O O O) O (JLo (G0 target) [] O .sct G (fun hc=>G6 O O) O (JLo (BL (decide (y28=target))) [39,40] O .sct ⟨Ua,Ua,G⟩ (fun hc=>Qc O O O) O (JLo (BL (decide (y28=target))) [41] O .sct ⟨Ua,G⟩ (fun hc=>G6 O O) O (JLo (E0 x) [] O .optf G (fun hc=>G6 O O) O (JLo (G0 s16.1) [] O .optf G (fun hc=>G6 O O) O ?_))))))
  obtain⟨y29,hy29,h⟩:=Gg h
  refine JLo (.dptr [G0 y29]) [43,44] O .optf ⟨Ua,Ua,G⟩ (fun hc=>(match Ya (H6 hc hy29) with | ⟨_,hm_,hy_⟩=>He (f:=G0) (xs:=x) (y:=y29) O O O Gj hy_ hm_)) O (JLo (G0 y29) [45] O .optf ⟨Ua,G⟩ (fun hc=>Gi Ge O O O) O ?_)
  obtain⟨r30,hr30,h⟩:=Gg h
  refine JLo (BL r30) [46] O .optf ⟨Ua,G⟩ (fun hc=>Gw (args:=[G0 y29]) O (G6a y29 r30 (H6 hc hr30)) Hd8 ⟨O,O,G⟩) O (JLo (BL r30) [47] O .optf ⟨Ua,G⟩ (fun hc=>G6 O O) O (JLo (G0 target) [] O .optt G (fun hc=>G6 O O) O ?_))
  obtain⟨r31,hr31,h⟩:=Gg h
  refine JLo (BL r31) [49] O .optt ⟨Ua,G⟩ (fun hc=>Gw (args:=[G0 target]) O (G6a target r31 (H6 hc hr31)) Hd8 ⟨O,O,G⟩) O (Gc (u:=BL (r30&&r31)) [(48,BL r30),(50,_)] O O O .optf ⟨.all id,.part,G⟩ (fun hc=>Qu O O O O) ?_)
  refine Gc (u:=BL ((decide (y28=target))||(r30&&r31))) [(42,BL (decide (y28=target))),(51,_)] O O O .sct ⟨.all id,.part,G⟩ (fun hc=>G44 O O O O) ?_
  refine JLh (BL ((decide (s16.1 < (x.length:Int)))&&((decide (y28=target))||(r30&&r31)))) (Qu O O O O) O (Rq (G0 s16.1) O (Rq (BL ((decide (s16.1 < (x.length:Int)))&&((decide (y28=target))||(r30&&r31)))) O (G7 (hK27 (Gt (⟨[G0 s16.1,BL ((decide (s16.1 < (x.length:Int)))&&((decide (y28=target))||(r30&&r31)))],[],G,O,⟨⟨_,O,.conv (.same O)⟩,⟨_,O,.conv (.same O)⟩,G⟩,O,congrArg (fun r:Int×Bool=>(.tup [G0 r.1,BL r.2]:AV)) (Option.some.inj h)⟩))))))

def G2e (F:Nat) (s:Gu) (boxes:List Ga) (l:List Stowed) (open_:List Int) (cover:Int):Option ((List Int)×Int):=
 bnd (Jn s boxes l open_) fun r4=>
 bif (!r4) then
 (some ([],2))
 else
 (bif ((decide (cover < 0))||(decide ((s.Covers.length:Int)≤cover))) then
  (some ([],6))
  else
  (bnd (G2c s l cover) fun r9=>
   bif decide (0 < (r9.length:Int)) then
   (some ([],95))
   else
   (bnd (Qb F open_ cover) fun r12=>
    bif r12.2 then
    (bnd (Jk open_) fun r16=>
     some (r16,0))
    else
    (bnd (Zd open_ r12.1 cover) fun r18=>
     some (r18,0)))))
theorem H31 (F:Nat) (s:Gu) (boxes:List Ga) (l:List Stowed) (open_:List Int) (cover:Int) (r:(List Int)×Int) (h:G2e F s boxes l open_ cover=some r):Pure Ek 20 [.agg (Gu.cs s),E2 boxes,E1 l,E0 open_,G0 cover] (·=.tup [E0 r.1,G0 r.2]):=by
 unfold G2e at h
 refine H1 [.tmp 10,.tmp 11] Tryz.func20 O O (Jr fun hK1=>(JLh (.ptr 1045 0) (Jf (cs:=(Gu.cs s)) 1045 O O O O O) O (JLh (E0 ([]:List Int)) (Hj 1 O O) O (Rq (G0 0) O (G7 (hK1 ?_))))))
 refine Gs [(1,E2 boxes),(2,E1 l),(3,E0 open_),(4,G0 cover),(5,Ec s)] [] 1045 rfl rfl rfl G rfl (by repeat' (first | exact .ptr | constructor)) (Js fun hK2=>Gv ?_)
 refine Jr fun hK3=>(JLh (.agg (Gu.cs s)) (Gk Hf O O O) O (Rq (E2 boxes) O (Rq (E1 l) O (Rq (E0 open_) O ?_))))
 obtain⟨r4,hr4,h⟩:=Gg h
 refine JLh (BL r4) (Gw O (G0f s boxes l open_ r4 hr4) Gd7 ⟨O,O,O,O,O,O,O,O,G⟩) O (JLh (BL (!r4)) (G06 (b:=r4) O O) O (Rq (BL (!r4)) O (G7 (hK3 (JCc O h (fun h hb=>?_) (fun h hb=>?_))))))
 ·
  refine Jr fun hK5=>(JLh (E0 ([]:List Int)) (Hj 1 O O) O (Rq (G0 2) O (G7 (hK5 (Gt (⟨[E0 ([]:List Int),G0 2],[],G,O,⟨⟨_,O,.conv (.same O)⟩,⟨_,O,.conv (.same O)⟩,G⟩,O,congrArg (fun r:(List Int)×Int=>(.tup [E0 r.1,G0 r.2]:AV)) (Option.some.inj h)⟩))))))
 ·
  refine Jr fun hK6=>(Rq (G0 cover) O (JLh (BL (decide (cover < 0))) (Jc O O O) O (Rq (BL (decide (cover < 0))) O (JLo (G0 cover) [] O .scf G (fun hc=>G6 O O) O (JLo (.dptr [E3 s.Covers,G0 s.Light.Kilos,G0 s.Light.X,G0 s.Light.Y,G0 s.Light.Z,E4 s.Rows,E5 s.Frames,E6 s.Tanks,G0 s.G2.Tolerance,G0 s.G2.Trim,G0 s.G2.List_,G0 s.G2.Stability]) [] O .scf G (fun hc=>Gd Jt O O O) O (JLo (E3 s.Covers) [26] O .scf ⟨Ua,G⟩ (fun hc=>Gi Qw O O O) O (JLo (Ej s.Covers.length) [27] O .scf ⟨Ua,G⟩ (fun hc=>Z6 (f:=G9.av) (xs:=s.Covers) Jw O O) O (JLo (BL (decide ((s.Covers.length:Int)≤cover))) [25,28] O .scf ⟨Ua,Ua,G⟩ (fun hc=>Ga1 O O O) O (JLh (BL ((decide (cover < 0))||(decide ((s.Covers.length:Int)≤cover)))) (G44 O O O O) O (Rq (BL ((decide (cover < 0))||(decide ((s.Covers.length:Int)≤cover)))) O (G7 (hK6 ?_))))))))))))
  refine JCc O h (fun h hb=>?_) (fun h hb=>?_)
  ·
   refine Jr fun hK7=>(JLh (E0 ([]:List Int)) (Hj 1 O O) O (Rq (G0 6) O (G7 (hK7 (Gt (⟨[E0 ([]:List Int),G0 6],[],G,O,⟨⟨_,O,.conv (.same O)⟩,⟨_,O,.conv (.same O)⟩,G⟩,O,congrArg (fun r:(List Int)×Int=>(.tup [E0 r.1,G0 r.2]:AV)) (Option.some.inj h)⟩))))))
  ·
   refine Jr fun hK8=>(JLh (.agg (Gu.cs s)) (Gk Hf O O O) O (Rq (E1 l) O (Rq (G0 cover) O ?_)))
   obtain⟨r9,hr9,h⟩:=Gg h
   refine JLh (E0 r9) (Gw O (H2f s l cover r9 hr9) He8 ⟨O,O,O,O,O,O,G⟩) O (JLl Gj O O O fun hm36=>(JLh (BL (decide (0 < (r9.length:Int)))) (G47 O O O) O (Rq (BL (decide (0 < (r9.length:Int)))) O (G7 (hK8 (JCc O h (fun h hb=>?_) (fun h hb=>?_)))))))
   ·
    refine Jr fun hK10=>(JLh (E0 ([]:List Int)) (Hj 1 O O) O (Rq (G0 95) O (G7 (hK10 (Gt (⟨[E0 ([]:List Int),G0 95],[],G,O,⟨⟨_,O,.conv (.same O)⟩,⟨_,O,.conv (.same O)⟩,G⟩,O,congrArg (fun r:(List Int)×Int=>(.tup [E0 r.1,G0 r.2]:AV)) (Option.some.inj h)⟩))))))
   ·
    refine Gp (hK2 (Jr fun hK11=>(Rq (E0 open_) O (Rq (G0 cover) O ?_))))
    obtain⟨r12,hr12,h⟩:=Gg h
    refine JLh (.tup [G0 r12.1,BL r12.2]) (Gw O (G83 F open_ cover r12 hr12) J86 ⟨O,O,O,O,G⟩) O (Rq (.tup [G0 r12.1,BL r12.2]) O (JLh (G0 r12.1) (Hb O O O) O (JLh (BL r12.2) (Hb O O O) O (Rq (G0 r12.1) O (Rq (BL r12.2) O (G7 (hK11 (Js fun hK13=>Jr fun hK14=>(Rq (BL r12.2) O (G7 (hK14 (JCc O h (fun h hb=>?_) (fun h hb=>?_)))))))))))))
    ·
     refine Jr fun hK15=>(Rq (E0 open_) O ?_)
     obtain⟨r16,hr16,h⟩:=Gg h
     refine JLh (E0 r16) (Gw O (H0f open_ r16 hr16) J85 ⟨O,O,G⟩) O (Rq (E0 r16) O (Rq (G0 0) O (G7 (hK15 (Gt (⟨[E0 r16,G0 0],[],G,O,⟨⟨_,O,.conv (.same O)⟩,⟨_,O,.conv (.same O)⟩,G⟩,O,congrArg (fun r:(List Int)×Int=>(.tup [E0 r.1,G0 r.2]:AV)) (Option.some.inj h)⟩))))))
    ·
     refine Gp (hK13 (Jr fun hK17=>(Rq (E0 open_) O (Rq (G0 r12.1) O (Rq (G0 cover) O ?_)))))
     obtain⟨r18,hr18,h⟩:=Gg h
     refine JLh (E0 r18) (Gw O (H72.down open_ r12.1 cover r18 hr18) J84 ⟨O,O,O,O,O,O,G⟩) O (Rq (E0 r18) O (Rq (G0 0) O (G7 (hK17 (Gt (⟨[E0 r18,G0 0],[],G,O,⟨⟨_,O,.conv (.same O)⟩,⟨_,O,.conv (.same O)⟩,G⟩,O,congrArg (fun r:(List Int)×Int=>(.tup [E0 r.1,G0 r.2]:AV)) (Option.some.inj h)⟩))))))

def Rm (s:Gu) (boxes:List Ga) (l:List Stowed) (open_:List Int) (id_:Int):Option Int:=
 bnd (Jn s boxes l open_) fun r4=>
 bif (!r4) then
 (some 2)
 else
 (bnd (Yh l id_) fun r7=>
  bif decide (r7.2≠0) then
  (some r7.2)
  else
  (bif decide (0 < (r7.1.length:Int)) then
   (some 90)
   else
   (bnd (Qq l id_) fun r15=>
    Z1 l r15 fun y16=>
    bnd (G0e s y16.Slot.G3) fun r18=>
    bnd (bif decide (0≤r18) then Jy open_ r18 else some default) fun r20=>
    bif ((decide (0≤r18))&&(!r20)) then
    (some 91)
    else
    (some 0))))
theorem G60 (s:Gu) (boxes:List Ga) (l:List Stowed) (open_:List Int) (id_:Int) (r:Int) (h:Rm s boxes l open_ id_=some r):Pure Ek 33 [.agg (Gu.cs s),E2 boxes,E1 l,E0 open_,G0 id_] (·=G0 r):=by
 unfold Rm at h
 refine H1 [.tmp 10] Tryz.func33 O O (Jr fun hK1=>(JLh (.ptr 1069 0) (Jf (cs:=(Gu.cs s)) 1069 O O O O O) O (Rq (G0 0) O (G7 (hK1 (Gs [(1,E2 boxes),(2,E1 l),(3,E0 open_),(4,G0 id_),(5,Ec s)] [] 1069 rfl rfl rfl G rfl (by repeat' (first | exact .ptr | constructor)) ?_))))))
 refine Js fun hK2=>Jr fun hK3=>(JLh (.agg (Gu.cs s)) (Gk Hf O O O) O (Rq (E2 boxes) O (Rq (E1 l) O (Rq (E0 open_) O ?_))))
 obtain⟨r4,hr4,h⟩:=Gg h
 refine JLh (BL r4) (Gw O (G0f s boxes l open_ r4 hr4) Gd7 ⟨O,O,O,O,O,O,O,O,G⟩) O (JLh (BL (!r4)) (G06 (b:=r4) O O) O (G7 (hK3 (JCc O h (fun h hb=>?_) (fun h hb=>?_)))))
 ·
  refine Jr fun hK5=>(Rq (G0 2) O (G7 (hK5 (Gt (fin1 G0 h)))))
 ·
  refine Gp (hK2 (Jr fun hK6=>(Rq (E1 l) O (Rq (G0 id_) O ?_))))
  obtain⟨r7,hr7,h⟩:=Gg h
  refine JLh (.tup [E0 r7.1,G0 r7.2]) (Gw O (H0c l id_ r7 hr7) Hea ⟨O,O,O,O,G⟩) O (Rq (.tup [E0 r7.1,G0 r7.2]) O (JLh (E0 r7.1) (Hb O O O) O (JLh (G0 r7.2) (Hb O O O) O (Rq (E0 r7.1) O (Rq (G0 r7.2) O (G7 (hK6 (Js fun hK8=>Gv (Jr fun hK9=>(Rq (G0 r7.2) O (JLh (BL (decide (r7.2≠0))) (H12 O O O) O (Rq (BL (decide (r7.2≠0))) O (G7 (hK9 (JCc O h (fun h hb=>?_) (fun h hb=>?_))))))))))))))))
  ·
   refine Jr fun hK10=>(Rq (G0 r7.2) O (Rq (G0 r7.2) O (G7 (hK10 (Gt (fin1 G0 h))))))
  ·
   refine Jr fun hK11=>(Rq (E0 r7.1) O (JLl Gj O O O fun hm32=>(JLh (BL (decide (0 < (r7.1.length:Int)))) (G47 O O O) O (Rq (BL (decide (0 < (r7.1.length:Int)))) O (G7 (hK11 (JCc O h (fun h hb=>?_) (fun h hb=>?_))))))))
   ·
    refine Jr fun hK12=>(Rq (G0 90) O (G7 (hK12 (Gt (fin1 G0 h)))))
   ·
    refine Gp (hK8 (Js fun hK13=>Js fun hK14=>?_))
    obtain⟨r15,hr15,h⟩:=Gg h
    obtain⟨m17,y16,hm17,hy16,h⟩:=Z0 h
    obtain⟨r18,hr18,h⟩:=Gg h
    refine JC_d0 Qo (by kernel_rfl) (Dq (.agg (Gu.cs s)) (Gk Hf O O O) O (Dq (E1 l) (G6 O O) O (Dq (E1 l) (G6 O O) O (Dq (G0 id_) (G6 O O) O (Dq (G0 r15) (Gw (args:=[E1 l,G0 id_]) O (Zm l id_ r15 hr15) G4a ⟨O,O,O,O,G⟩) O (Dq (Ed y16) (He (f:=Stowed.av) (xs:=l) (y:=y16) O O O Hd hy16 hm17) O (Dq (.dptr ((Stowed.cs y16).drop 1)) (Gd J4 O O O) O (Dq (.dptr ((Stowed.cs y16).drop 1)) (Gd Jd O O O) O (Dq (G0 y16.Slot.G3) (Gi Ge O O O) O (Dq (G0 r18) (Gw (args:=[.agg (Gu.cs s),G0 y16.Slot.G3]) O (H0b s y16.Slot.G3 r18 hr18) He9 ⟨O,O,O,O,G⟩) O (Dq (G0 r18) (G8 O O) O (Dnil ?_))))))))))))
    refine hK14 (Jr fun hK19=>(Rq (G0 r18) O (JLh (BL (decide (0≤r18))) (Ga1 O O O) O (Rq (BL (decide (0≤r18))) O (JLo (E0 open_) [] O .sct G (fun hc=>G6 O O) O (JLo (G0 r18) [] O .sct G (fun hc=>G6 O O) O ?_))))))
    obtain⟨r20,hr20,h⟩:=Gg h
    refine JLo (BL r20) [47,48] O .sct ⟨Ua,Ua,G⟩ (fun hc=>Gw (args:=[E0 open_,G0 r18]) O (Z4 open_ r18 r20 (H6 hc hr20)) H3c ⟨O,O,O,O,G⟩) O (JLo (BL (!r20)) [49] O .sct ⟨Ua,G⟩ (fun hc=>G06 (b:=r20) O O) O (JLh (BL ((decide (0≤r18))&&(!r20))) (Qu O O O O) O (G7 (hK19 (JCc O h (fun h hb=>?_) (fun h hb=>?_))))))
    ·
     refine Jr fun hK21=>(Rq (G0 91) O (G7 (hK21 (Gt (fin1 G0 h)))))
    ·
     refine Gp (hK13 (Jr fun hK22=>(Rq (G0 0) O (G7 (hK22 (Gt (fin1 G0 h)))))))

def G00 (s:Gu) (boxes:List Ga) (l:List Stowed) (open_:List Int) (id_:Int):Option ((List Stowed)×Int):=
 bnd (Rm s boxes l open_ id_) fun r4=>
 bif decide (r4≠0) then
 (some ([],r4))
 else
 (bnd (Qq l id_) fun r8=>
  bnd (Qk l r8) fun r9=>
  some (r9,0))
theorem M_stow_Take_w (s:Gu) (boxes:List Ga) (l:List Stowed) (open_:List Int) (id_:Int) (r:(List Stowed)×Int) (h:G00 s boxes l open_ id_=some r):Pure Ek 21 [.agg (Gu.cs s),E2 boxes,E1 l,E0 open_,G0 id_] (·=.tup [E1 r.1,G0 r.2]):=by
 unfold G00 at h
 refine H1 [.tmp 10,.tmp 11] Tryz.func21 O O (Jr fun hK1=>(JLh (.ptr 1046 0) (Jf (cs:=(Gu.cs s)) 1046 O O O O O) O (JLh (E1 ([]:List Stowed)) (Hj 4 O O) O (Rq (G0 0) O (G7 (hK1 ?_))))))
 refine Gs [(1,E2 boxes),(2,E1 l),(3,E0 open_),(4,G0 id_),(5,Ec s)] [] 1046 rfl rfl rfl G rfl (by repeat' (first | exact .ptr | constructor)) (Js fun hK2=>?_)
 refine Jr fun hK3=>(JLh (.agg (Gu.cs s)) (Gk Hf O O O) O (Rq (E2 boxes) O (Rq (E1 l) O (Rq (E0 open_) O (Rq (G0 id_) O ?_)))))
 obtain⟨r4,hr4,h⟩:=Gg h
 refine JLh (G0 r4) (Gw O (G60 s boxes l open_ id_ r4 hr4) Gd6 ⟨O,O,O,O,O,O,O,O,O,O,G⟩) O (Rq (G0 r4) O (G7 (hK3 (Jr fun hK5=>(Rq (G0 r4) O (JLh (BL (decide (r4≠0))) (H12 O O O) O (G7 (hK5 (JCc O h (fun h hb=>?_) (fun h hb=>?_))))))))))
 ·
  refine Jr fun hK6=>(Rq (G0 r4) O (JLh (E1 ([]:List Stowed)) (Hj 4 O O) O (Rq (G0 r4) O (G7 (hK6 (Gt (⟨[E1 ([]:List Stowed),G0 r4],[],G,O,⟨⟨_,O,.conv (.same O)⟩,⟨_,O,.conv (.same O)⟩,G⟩,O,congrArg (fun r:(List Stowed)×Int=>(.tup [E1 r.1,G0 r.2]:AV)) (Option.some.inj h)⟩)))))))
 ·
  refine Gp (hK2 (Jr fun hK7=>(Rq (E1 l) O (Rq (E1 l) O (Rq (G0 id_) O ?_)))))
  obtain⟨r8,hr8,h⟩:=Gg h
  refine JLh (G0 r8) (Gw O (Zm l id_ r8 hr8) G4a ⟨O,O,O,O,G⟩) O ?_
  obtain⟨r9,hr9,h⟩:=Gg h
  refine JLh (E1 r9) (Gw O (G99.down l r8 r9 hr9) J83 ⟨O,O,O,O,G⟩) O (Rq (E1 r9) O (Rq (G0 0) O (G7 (hK7 (Gt (⟨[E1 r9,G0 0],[],G,O,⟨⟨_,O,.conv (.same O)⟩,⟨_,O,.conv (.same O)⟩,G⟩,O,congrArg (fun r:(List Stowed)×Int=>(.tup [E1 r.1,G0 r.2]:AV)) (Option.some.inj h)⟩))))))

def Ju (F:Nat) (s:Gu) (boxes:List Ga) (l:List Stowed) (set:List Int) (never:Int):Option ((List Stowed)×Int):=
 jp (fun kj4=>
  loop (fun nx6 (s6:(List Stowed)×(List Int)×Int×Bool)=>
   bif s6.2.2.2 then
   (each (fun y24 i24 (s24:(List Int)×Bool) nx24=>
     jp (fun kj27=>
      bnd (G2e F s boxes s6.1 s24.1 (i24:Int)) fun r30=>
      bif ((decide (r30.2=0))&&(decide ((s24.1.length:Int) < (r30.1.length:Int)))) then
      (kj27 (r30.1,true))
      else
      (kj27 (s24.1,s24.2))) fun(j27:(List Int)×Bool)=>
     nx24 (j27.1,j27.2))
    (fun(s24:(List Int)×Bool)=>
     each (fun y54 i54 (s54:(List Stowed)×Int×Bool) nx54=>
      jp (fun kj57=>
       bnd (G00 s boxes s54.1 s24.1 y54) fun r60=>
       bif ((decide (y54≠never))&&(decide (r60.2=0))) then
       (G15 (s54.2.1+1) fun v63=>
        kj57 (r60.1,v63,true))
       else
       (kj57 (s54.1,s54.2.1,s54.2.2))) fun(j57:(List Stowed)×Int×Bool)=>
      nx54 (j57.1,j57.2.1,j57.2.2))
     (fun(s54:(List Stowed)×Int×Bool)=>
      bif ((decide ((set.length:Int) < s54.2.1))||(decide ((s.Covers.length:Int) < (s24.1.length:Int)))) then
      (kj4 (s54.1,s54.2.1))
      else
      (nx6 (s54.1,s24.1,s54.2.1,s54.2.2))) set 0 (s6.1,s6.2.2.1,s24.2)) s.Covers 0 (s6.2.1,false))
   else
   (kj4 (s6.1,s6.2.2.1))) F (l,[],0,true)) fun(j4:(List Stowed)×Int)=>
 some (j4.1,j4.2)
theorem Zy (F:Nat) (s:Gu) (boxes:List Ga) (l:List Stowed) (set:List Int) (never:Int) (r:(List Stowed)×Int) (h:Ju F s boxes l set never=some r):Pure Ek 7 [.agg (Gu.cs s),E2 boxes,E1 l,E0 set,G0 never] (·=.tup [E1 r.1,G0 r.2]):=by
 unfold Ju at h
 refine H1 [.tmp 10,.tmp 11] Tryz.func7 O O (Jr fun hK1=>(JLh (.ptr 1019 0) (Jf (cs:=(Gu.cs s)) 1019 O O O O O) O (JLh (E1 ([]:List Stowed)) (Hj 4 O O) O (Rq (G0 0) O (G7 (hK1 ?_))))))
 refine Gs [(1,E2 boxes),(2,E1 l),(3,E0 set),(4,G0 never),(5,Ec s)] [] 1019 rfl rfl rfl G rfl (by repeat' (first | exact .ptr | constructor)) (Jr fun hK2=>(JLh (E0 ([]:List Int)) (Hj 1 O O) O (G7 (hK2 (Jr fun hK3=>(Rq (G0 0) O (G7 (hK3 ?_))))))))
 obtain⟨kj4,hkj4,h⟩:=Yo h
 refine Rb (fun j4:(List Stowed)×Int=>kj4 j4=some r) (fun j4=>[(2,E1 j4.1),(13,G0 j4.2)]) (fun j4=>[]) (fun Kj4 ej4=>?_) ?_
 ·
  refine Jr fun hK5=>(Rq (BL true) O (G7 (hK5 (Gv ?_))))
  obtain⟨b6,hb6,h⟩:=loop_in h
  refine Hr (fun i6 (s6:(List Stowed)×(List Int)×Int×Bool)=>loop b6 i6 s6=some r) (fun i6 s6=>[(1,E2 boxes),(2,E1 s6.1),(3,E0 set),(4,G0 never),(5,Ec s),(12,E0 s6.2.1),(13,G0 s6.2.2.1),(14,BL s6.2.2.2)]) (fun i6 s6=>[]) (fun i6=>i6) F (l,[],0,true) h ⟨(by repeat' constructor),G,rfl⟩ ?_
  clear h
  intro i6 s6 hi6 K6 e6
  obtain⟨m6,nx6,hm_6,hn6,h⟩:=Hff hi6
  replace h:=app2 hb6 h
  refine Js fun hK7=>Jr fun hK8=>(Rq (BL s6.2.2.2) O (G7 (hK8 (JCc O h (fun h hb=>?_) (fun h hb=>?_)))))
  ·
   refine Gp (hK7 (Gv (Jr fun hK9=>(Rq (BL false) O (G7 (hK9 (Js fun hK10=>Jr fun hK11=>(JLh (.dptr [E3 s.Covers,G0 s.Light.Kilos,G0 s.Light.X,G0 s.Light.Y,G0 s.Light.Z,E4 s.Rows,E5 s.Frames,E6 s.Tanks,G0 s.G2.Tolerance,G0 s.G2.Trim,G0 s.G2.List_,G0 s.G2.Stability]) (Gd Jt O O O) O (JLh (E3 s.Covers) (Gi Qw O O O) O (JLl Jw O O O fun hm25=>(Rq (G0 0) O (G7 (hK11 (Gv ?_))))))))))))))
   obtain⟨b24,kx24,hb24,hkx24,h⟩:=Ja h
   refine Hr (fun i24 (s24:(List Int)×Bool)=>each b24 kx24 (List.drop i24 s.Covers) i24 s24=some r) (fun i24 s24=>[(1,E2 boxes),(2,E1 s6.1),(3,E0 set),(4,G0 never),(5,Ec s),(12,E0 s24.1),(13,G0 s6.2.2.1),(14,BL s24.2),(25,Ej s.Covers.length),(26,Ej i24)]) (fun i24 s24=>[]) (fun i24=>s.Covers.length - i24) 0 (s6.2.1,false) h ⟨(by repeat' constructor),G,rfl⟩ ?_
   clear h
   intro i24 s24 hi24 K24 e24
   refine Jr fun hK25=>(JLh (BL (decide ((i24:Int) < (s.Covers.length:Int)))) (Jc O O O) O (G7 (hK25 (Js fun hK26=>Gm O (fun hb=>?_) (fun hb=>?_)))))
   ·
    have hk24:=Jz hb
    obtain⟨y24,nx24,hy24,hn24,h⟩:=Hu hi24 hk24
    replace h:=Zr hb24 h
    refine Gp (hK26 ?_)
    obtain⟨kj27,hkj27,h⟩:=Yo h
    refine Rb (fun j27:(List Int)×Bool=>kj27 j27=some r) (fun j27=>[(1,E2 boxes),(2,E1 s6.1),(3,E0 set),(4,G0 never),(5,Ec s),(12,E0 j27.1),(13,G0 s6.2.2.1),(14,BL j27.2),(25,Ej s.Covers.length),(26,Ej i24)]) (fun j27=>[]) (fun Kj27 ej27=>?_) ?_
    ·
     refine Gv (Jr fun hK28=>(Rq (Ej i24) O (Rq (Ej i24) O (G7 (hK28 (Jr fun hK29=>(JLh (.agg (Gu.cs s)) (Gk Hf O O O) O (Rq (E2 boxes) O (Rq (E1 s6.1) O (Rq (E0 s24.1) O (Rq (Ej i24) O ?_)))))))))))
     obtain⟨r30,hr30,h⟩:=Gg h
     refine JLh (.tup [E0 r30.1,G0 r30.2]) (Gw O (H31 F s boxes s6.1 s24.1 (i24:Int) r30 hr30) He7 ⟨O,O,O,O,O,O,O,O,O,O,G⟩) O (Rq (.tup [E0 r30.1,G0 r30.2]) O (JLh (E0 r30.1) (Hb O O O) O (JLh (G0 r30.2) (Hb O O O) O (Rq (E0 r30.1) O (Rq (G0 r30.2) O (G7 (hK29 ?_)))))))
     refine Jr fun hK31=>(Rq (G0 r30.2) O (JLh (BL (decide (r30.2=0))) (Qc O O O) O (Rq (BL (decide (r30.2=0))) O (JLo (E0 r30.1) [] O .sct G (fun hc=>G6 O O) O (JLo (Ej r30.1.length) [41] O .sct ⟨Ua,G⟩ (fun hc=>Z6 (f:=G0) (xs:=r30.1) Gj O O) O (JLo (E0 s24.1) [] O .sct G (fun hc=>G6 O O) O (JLo (Ej s24.1.length) [43] O .sct ⟨Ua,G⟩ (fun hc=>Z6 (f:=G0) (xs:=s24.1) Gj O O) O (JLo (BL (decide ((s24.1.length:Int) < (r30.1.length:Int)))) [42,44] O .sct ⟨Ua,Ua,G⟩ (fun hc=>G47 O O O) O (JLh (BL ((decide (r30.2=0))&&(decide ((s24.1.length:Int) < (r30.1.length:Int))))) (Qu O O O O) O (G7 (hK31 (JCc O h (fun h hb=>?_) (fun h hb=>?_)))))))))))))
     ·
      refine G4 (Rq (E0 r30.1) O (Rq (E0 r30.1) O (Rq (BL true) O (G7 (ej27 _ _ (r30.1,true) h ⟨(by repeat' constructor),G,rfl⟩)))))
     ·
      refine Gp (ej27 _ _ (s24.1,s24.2) h ⟨(by repeat' constructor),G,rfl⟩)
    ·intro j27 h
     replace h:=app1 hkj27 h
     refine G4 (JLh (G0 ((i24+1:Nat):Int)) (J0 (Ho hk24 hm25) O O O) O (Rq (G0 ((i24+1:Nat):Int)) O (G7 (e24 _ _ (i24+1) (j27.1,j27.2) (app1 hn24 h) (by omega) ⟨(by repeat' constructor),G,rfl⟩))))
   ·
    have h:=app1 hkx24 (Hv hi24 (Hi hb))
    refine Hy (hK10 (Js fun hK32=>Jr fun hK33=>(Rq (E0 set) O (JLl Gj O O O fun hm50=>(Rq (G0 0) O (G7 (hK33 (Gv ?_))))))))
    obtain⟨b54,kx54,hb54,hkx54,h⟩:=Ja h
    refine Hr (fun i54 (s54:(List Stowed)×Int×Bool)=>each b54 kx54 (List.drop i54 set) i54 s54=some r) (fun i54 s54=>[(1,E2 boxes),(2,E1 s54.1),(3,E0 set),(4,G0 never),(5,Ec s),(12,E0 s24.1),(13,G0 s54.2.1),(14,BL s54.2.2),(49,E0 set),(50,Ej set.length),(51,Ej i54)]) (fun i54 s54=>[]) (fun i54=>set.length - i54) 0 (s6.1,s6.2.2.1,s24.2) h ⟨(by repeat' constructor),G,rfl⟩ ?_
    clear h
    intro i54 s54 hi54 K54 e54
    refine Jr fun hK55=>(JLh (BL (decide ((i54:Int) < (set.length:Int)))) (Jc O O O) O (G7 (hK55 (Js fun hK56=>Gm O (fun hb=>?_) (fun hb=>?_)))))
    ·
     have hk54:=Jz hb
     obtain⟨y54,nx54,hy54,hn54,h⟩:=Hu hi54 hk54
     replace h:=Zr hb54 h
     refine Gp (hK56 ?_)
     obtain⟨kj57,hkj57,h⟩:=Yo h
     refine Rb (fun j57:(List Stowed)×Int×Bool=>kj57 j57=some r) (fun j57=>[(1,E2 boxes),(2,E1 j57.1),(3,E0 set),(4,G0 never),(5,Ec s),(12,E0 s24.1),(13,G0 j57.2.1),(14,BL j57.2.2),(49,E0 set),(50,Ej set.length),(51,Ej i54)]) (fun j57=>[]) (fun Kj57 ej57=>?_) ?_
     ·
      refine Gv (Jr fun hK58=>(JLh (.dptr [G0 y54]) (He (f:=G0) (xs:=set) (y:=y54) O O O Gj hy54 O) O (JLh (G0 y54) (Gi Ge O O O) O (Rq (G0 y54) O (G7 (hK58 (Jr fun hK59=>(JLh (.agg (Gu.cs s)) (Gk Hf O O O) O (Rq (E2 boxes) O (Rq (E1 s54.1) O (Rq (E0 s24.1) O (Rq (G0 y54) O ?_))))))))))))
      obtain⟨r60,hr60,h⟩:=Gg h
      refine JLh (.tup [E1 r60.1,G0 r60.2]) (Gw O (M_stow_Take_w s boxes s54.1 s24.1 y54 r60 hr60) J8e ⟨O,O,O,O,O,O,O,O,O,O,G⟩) O (Rq (.tup [E1 r60.1,G0 r60.2]) O (JLh (E1 r60.1) (Hb O O O) O (JLh (G0 r60.2) (Hb O O O) O (Rq (E1 r60.1) O (Rq (G0 r60.2) O (G7 (hK59 (Jr fun hK61=>(Rq (G0 y54) O (Rq (G0 never) O (JLh (BL (decide (y54≠never))) (H12 O O O) O (Rq (BL (decide (y54≠never))) O (JLo (G0 r60.2) [] O .sct G (fun hc=>G6 O O) O (JLo (BL (decide (r60.2=0))) [68] O .sct ⟨Ua,G⟩ (fun hc=>Qc O O O) O (JLh (BL ((decide (y54≠never))&&(decide (r60.2=0)))) (Qu O O O O) O (G7 (hK61 (JCc O h (fun h hb=>?_) (fun h hb=>?_)))))))))))))))))))
      ·
       refine Jr fun hK62=>(Rq (E1 r60.1) O (Rq (E1 r60.1) O (Rq (BL true) O (G7 (hK62 (G4 (Rq (G0 s54.2.1) O ?_)))))))
       obtain⟨v63,hv63,h⟩:=Jj h
       refine JLh (G0 v63) (J0 hv63 O O O) O (Rq (G0 v63) O (G7 (ej57 _ _ (r60.1,v63,true) h ⟨(by repeat' constructor),G,rfl⟩)))
      ·
       refine Gp (ej57 _ _ (s54.1,s54.2.1,s54.2.2) h ⟨(by repeat' constructor),G,rfl⟩)
     ·intro j57 h
      replace h:=app1 hkj57 h
      refine G4 (JLh (G0 ((i54+1:Nat):Int)) (J0 (Ho hk54 hm50) O O O) O (Rq (G0 ((i54+1:Nat):Int)) O (G7 (e54 _ _ (i54+1) (j57.1,j57.2.1,j57.2.2) (app1 hn54 h) (by omega) ⟨(by repeat' constructor),G,rfl⟩))))
    ·
     have h:=app1 hkx54 (Hv hi54 (Hi hb))
     refine Hy (hK32 ?_)
     refine Jr fun hK64=>(Rq (G0 s54.2.1) O (Rq (E0 set) O (JLl Gj O O O fun hm77=>(JLh (BL (decide ((set.length:Int) < s54.2.1))) (G47 O O O) O (Rq (BL (decide ((set.length:Int) < s54.2.1))) O (JLo (E0 s24.1) [] O .scf G (fun hc=>G6 O O) O (JLo (Ej s24.1.length) [80] O .scf ⟨Ua,G⟩ (fun hc=>Z6 (f:=G0) (xs:=s24.1) Gj O O) O (JLo (.dptr [E3 s.Covers,G0 s.Light.Kilos,G0 s.Light.X,G0 s.Light.Y,G0 s.Light.Z,E4 s.Rows,E5 s.Frames,E6 s.Tanks,G0 s.G2.Tolerance,G0 s.G2.Trim,G0 s.G2.List_,G0 s.G2.Stability]) [] O .scf G (fun hc=>Gd Jt O O O) O (JLo (E3 s.Covers) [82] O .scf ⟨Ua,G⟩ (fun hc=>Gi Qw O O O) O (JLo (Ej s.Covers.length) [83] O .scf ⟨Ua,G⟩ (fun hc=>Z6 (f:=G9.av) (xs:=s.Covers) Jw O O) O (JLo (BL (decide ((s.Covers.length:Int) < (s24.1.length:Int)))) [81,84] O .scf ⟨Ua,Ua,G⟩ (fun hc=>G47 O O O) O (JLh (BL ((decide ((set.length:Int) < s54.2.1))||(decide ((s.Covers.length:Int) < (s24.1.length:Int))))) (G44 O O O O) O (G7 (hK64 ?_))))))))))))))
     refine JCc O h (fun h hb=>?_) (fun h hb=>?_)
     ·
      refine Hy (ej4 _ _ (s54.1,s54.2.1) h ⟨⟨.same O,.same O,G⟩,G,O⟩)
     ·
      refine Gp (e6 _ _ m6 (s54.1,s24.1,s54.2.1,s54.2.2) (app1 hn6 h) (by omega) ⟨(by repeat' constructor),G,rfl⟩)
  ·
   refine Hy (ej4 _ _ (s6.1,s6.2.2.1) h ⟨⟨.same O,.same O,G⟩,G,O⟩)
 ·intro j4 h
  replace h:=app1 hkj4 h
  refine Jr fun hK65=>(Rq (E1 j4.1) O (Rq (G0 j4.2) O (Rq (E1 j4.1) O (Rq (G0 j4.2) O (G7 (hK65 (Gt (⟨[E1 j4.1,G0 j4.2],[],G,O,⟨⟨_,O,.conv (.same O)⟩,⟨_,O,.conv (.same O)⟩,G⟩,O,congrArg (fun r:(List Stowed)×Int=>(.tup [E1 r.1,G0 r.2]:AV)) (Option.some.inj h)⟩))))))))

def R1 (l:List Stowed) (ids:List Int):Option Bool:=
 each (fun y4 i4 (s4:Unit) nx4=>
  each (fun y24 i24 (s24:Unit) nx24=>
   bif decide (y4.Ga=y24) then
   (some true)
   else
   (nx24 ()))
  (fun(s24:Unit)=>
   nx4 ()) ids 0 ())
 (fun(s4:Unit)=>
  some false) l 0 ()
theorem G45 (l:List Stowed) (ids:List Int) (r:Bool) (h:R1 l ids=some r):Pure Ek 8 [E1 l,E0 ids] (·=BL r):=by
 unfold R1 at h
 refine H1 [.tmp 4] Tryz.func8 O O (Jr fun hK1=>(Rq (BL false) O (G7 (hK1 (Js fun hK2=>Jr fun hK3=>(Rq (E1 l) O (JLl Hd O O O fun hm10=>(Rq (G0 0) O (G7 (hK3 (Gv ?_)))))))))))
 obtain⟨b4,kx4,hb4,hkx4,h⟩:=Ja h
 refine Hr (fun i4 (s4:Unit)=>each b4 kx4 (List.drop i4 l) i4 s4=some r) (fun i4 s4=>[(1,E0 ids),(9,E1 l),(10,Ej l.length),(11,Ej i4)]) (fun i4 s4=>[]) (fun i4=>l.length - i4) 0 () h ⟨(by repeat' constructor),G,rfl⟩ ?_
 clear h
 intro i4 s4 hi4 K4 e4
 refine Jr fun hK5=>(JLh (BL (decide ((i4:Int) < (l.length:Int)))) (Jc O O O) O (G7 (hK5 (Js fun hK6=>Gm O (fun hb=>?_) (fun hb=>?_)))))
 ·
  have hk4:=Jz hb
  obtain⟨y4,nx4,hy4,hn4,h⟩:=Hu hi4 hk4
  replace h:=Zr hb4 h
  refine Gp (hK6 (Js fun hK7=>Gv (Jr fun hK8=>(JLh (Ed y4) (He (f:=Stowed.av) (xs:=l) (y:=y4) O O O Hd hy4 O) O (JLh (.agg (Stowed.cs y4)) (Gk Yz O O O) O (JLh (.ptr 1020 0) (Jb 1020 4 Rg O O) O (J8 (u:=.junk) (Ht (u:=.agg (Stowed.cs y4)) (ds:=[G0 y4.Ga,G0 y4.Slot.G3,G0 y4.Slot.Tier,U8 y4.Slot.Half]) Zv O O O O O O O O) (G7 (hK8 (Gs [(1,E0 ids),(6,Ed y4),(9,E1 l),(10,Ej l.length),(11,Ej i4)] [] 1020 rfl rfl rfl G rfl (by repeat' (first | exact .ptr | constructor)) (Jr fun hK9=>(Rq (E0 ids) O (JLl Gj O O O fun hm16=>(Rq (G0 0) O (G7 (hK9 (Gv ?_)))))))))))))))))
  obtain⟨b24,kx24,hb24,hkx24,h⟩:=Ja h
  refine Hr (fun i24 (s24:Unit)=>each b24 kx24 (List.drop i24 ids) i24 s24=some r) (fun i24 s24=>[(1,E0 ids),(6,Ed y4),(9,E1 l),(10,Ej l.length),(11,Ej i4),(15,E0 ids),(16,Ej ids.length),(17,Ej i24)]) (fun i24 s24=>[]) (fun i24=>ids.length - i24) 0 () h ⟨(by repeat' constructor),G,rfl⟩ ?_
  clear h
  intro i24 s24 hi24 K24 e24
  refine Jr fun hK25=>(JLh (BL (decide ((i24:Int) < (ids.length:Int)))) (Jc O O O) O (G7 (hK25 (Js fun hK26=>Gm O (fun hb=>?_) (fun hb=>?_)))))
  ·
   have hk24:=Jz hb
   obtain⟨y24,nx24,hy24,hn24,h⟩:=Hu hi24 hk24
   replace h:=Zr hb24 h
   refine Gp (hK26 (Js fun hK27=>Gv (Jr fun hK28=>(JLh (.dptr [G0 y24]) (He (f:=G0) (xs:=ids) (y:=y24) O O O Gj hy24 O) O (JLh (G0 y24) (Gi Ge O O O) O (Rq (G0 y24) O (G7 (hK28 (Jr fun hK29=>(JLh (Ed y4) (Gd Jq O O O) O (JLh (G0 y4.Ga) (Gi Ge O O O) O (Rq (G0 y24) O (JLh (BL (decide (y4.Ga=y24))) (Qc O O O) O (G7 (hK29 (JCc O h (fun h hb=>?_) (fun h hb=>?_)))))))))))))))))
   ·
    refine Jr fun hK30=>(Rq (BL true) O (G7 (hK30 (Gt (fin1 BL h)))))
   ·
    refine Gp (hK27 (G4 (JLh (G0 ((i24+1:Nat):Int)) (J0 (Ho hk24 hm16) O O O) O (Rq (G0 ((i24+1:Nat):Int)) O (G7 (e24 _ _ (i24+1) () (app1 hn24 h) (by omega) ⟨(by repeat' constructor),G,rfl⟩))))))
  ·
   have h:=app1 hkx24 (Hv hi24 (Hi hb))
   refine Hy (hK7 (G4 (JLh (G0 ((i4+1:Nat):Int)) (J0 (Ho hk4 hm10) O O O) O (Rq (G0 ((i4+1:Nat):Int)) O (G7 (e4 _ _ (i4+1) () (app1 hn4 h) (by omega) ⟨(by repeat' constructor),G,rfl⟩))))))
 ·
  have h:=app1 hkx4 (Hv hi4 (Hi hb))
  refine Hy (hK2 (Jr fun hK31=>(Rq (BL false) O (G7 (hK31 (Gt (fin1 BL h)))))))

def Yq :Option Gu:=
 some (Gu.mk ([(G3.mk 0 0 false 2 0 0 0 0 [] 0 0 0),(G3.mk 0 1 false 2 0 0 0 0 [] 0 0 0),(G3.mk 0 0 true 3 0 0 0 0 [] 0 0 0),(G3.mk 0 1 true 3 0 0 0 0 [] 0 0 0),(G3.mk 1 1 true 4 0 0 0 0 [] 0 0 0)]) ([(G9.mk 0 [0,1])]) (Light.mk 0 0 0 0) [] [] [] (G2.mk 0 0 0 0))
theorem G9d  (r:Gu) (h:Yq =some r):Pure Ek 29 [] (·=.agg (Gu.cs r)):=by
 unfold Yq at h
 refine H1 [.cell 0 36] Tryz.func29 O O (Jr fun hK1=>(JLh (.ptr 1063 0) (Ga4 1063 [E7 ([]:List G3),E3 ([]:List G9),G0 0,G0 0,G0 0,G0 0,E4 ([]:List Row),E5 ([]:List Frame),E6 ([]:List Gh),G0 0,G0 0,G0 0,G0 0] [.slice none 0 0,.slice none 0 0,.int .i64 0,.int .i64 0,.int .i64 0,.int .i64 0,.slice none 0 0,.slice none 0 0,.slice none 0 0,.int .i64 0,.int .i64 0,.int .i64 0,.int .i64 0] G8a ⟨.inr ⟨_,O,O⟩,.inr ⟨_,O,O⟩,.inl O,.inl O,.inl O,.inl O,.inr ⟨_,O,O⟩,.inr ⟨_,O,O⟩,.inr ⟨_,O,O⟩,.inl O,.inl O,.inl O,.inl O,G⟩ O O) O (G7 (hK1 ?_))))
 refine Jr fun hK2=>(JLh (.agg [G0 0,G0 0,BL false,G0 2,G0 0,G0 0,G0 0,G0 0,E0 ([]:List Int),G0 0,G0 0,G0 0]) (Hp (cs:=[G0 0,G0 0,BL false,G0 2,G0 0,G0 0,G0 0,G0 0,E0 ([]:List Int),G0 0,G0 0,G0 0]) [(0,1),(1,1),(2,1),(3,1),(4,1),(5,1),(6,1),(7,1),(8,1),(9,1),(10,1),(11,1)] [G0 0,G0 0,BL false,G0 0,G0 0,G0 0,G0 0,G0 0,E0 ([]:List Int),G0 0,G0 0,G0 0] [.int .i64 0,.int .i64 0,.bool false,.int .i64 0,.int .i64 0,.int .i64 0,.int .i64 0,.int .i64 0,.slice none 0 0,.int .i64 0,.int .i64 0,.int .i64 0] Z9 G23 ⟨.inl O,.inl O,.inl O,.inl O,.inl O,.inl O,.inl O,.inl O,.inr ⟨_,O,O⟩,.inl O,.inl O,.inl O,G⟩ O O) O (JLh (.agg [G0 0,G0 1,BL false,G0 2,G0 0,G0 0,G0 0,G0 0,E0 ([]:List Int),G0 0,G0 0,G0 0]) (Hp (cs:=[G0 0,G0 1,BL false,G0 2,G0 0,G0 0,G0 0,G0 0,E0 ([]:List Int),G0 0,G0 0,G0 0]) [(0,1),(1,1),(2,1),(3,1),(4,1),(5,1),(6,1),(7,1),(8,1),(9,1),(10,1),(11,1)] [G0 0,G0 0,BL false,G0 0,G0 0,G0 0,G0 0,G0 0,E0 ([]:List Int),G0 0,G0 0,G0 0] [.int .i64 0,.int .i64 0,.bool false,.int .i64 0,.int .i64 0,.int .i64 0,.int .i64 0,.int .i64 0,.slice none 0 0,.int .i64 0,.int .i64 0,.int .i64 0] Z9 G23 ⟨.inl O,.inl O,.inl O,.inl O,.inl O,.inl O,.inl O,.inl O,.inr ⟨_,O,O⟩,.inl O,.inl O,.inl O,G⟩ O O) O (JLh (.agg [G0 0,G0 0,BL true,G0 3,G0 0,G0 0,G0 0,G0 0,E0 ([]:List Int),G0 0,G0 0,G0 0]) (Hp (cs:=[G0 0,G0 0,BL true,G0 3,G0 0,G0 0,G0 0,G0 0,E0 ([]:List Int),G0 0,G0 0,G0 0]) [(0,1),(1,1),(2,1),(3,1),(4,1),(5,1),(6,1),(7,1),(8,1),(9,1),(10,1),(11,1)] [G0 0,G0 0,BL false,G0 0,G0 0,G0 0,G0 0,G0 0,E0 ([]:List Int),G0 0,G0 0,G0 0] [.int .i64 0,.int .i64 0,.bool false,.int .i64 0,.int .i64 0,.int .i64 0,.int .i64 0,.int .i64 0,.slice none 0 0,.int .i64 0,.int .i64 0,.int .i64 0] Z9 G23 ⟨.inl O,.inl O,.inl O,.inl O,.inl O,.inl O,.inl O,.inl O,.inr ⟨_,O,O⟩,.inl O,.inl O,.inl O,G⟩ O O) O (JLh (.agg [G0 0,G0 1,BL true,G0 3,G0 0,G0 0,G0 0,G0 0,E0 ([]:List Int),G0 0,G0 0,G0 0]) (Hp (cs:=[G0 0,G0 1,BL true,G0 3,G0 0,G0 0,G0 0,G0 0,E0 ([]:List Int),G0 0,G0 0,G0 0]) [(0,1),(1,1),(2,1),(3,1),(4,1),(5,1),(6,1),(7,1),(8,1),(9,1),(10,1),(11,1)] [G0 0,G0 0,BL false,G0 0,G0 0,G0 0,G0 0,G0 0,E0 ([]:List Int),G0 0,G0 0,G0 0] [.int .i64 0,.int .i64 0,.bool false,.int .i64 0,.int .i64 0,.int .i64 0,.int .i64 0,.int .i64 0,.slice none 0 0,.int .i64 0,.int .i64 0,.int .i64 0] Z9 G23 ⟨.inl O,.inl O,.inl O,.inl O,.inl O,.inl O,.inl O,.inl O,.inr ⟨_,O,O⟩,.inl O,.inl O,.inl O,G⟩ O O) O (JLh (.agg [G0 1,G0 1,BL true,G0 4,G0 0,G0 0,G0 0,G0 0,E0 ([]:List Int),G0 0,G0 0,G0 0]) (Hp (cs:=[G0 1,G0 1,BL true,G0 4,G0 0,G0 0,G0 0,G0 0,E0 ([]:List Int),G0 0,G0 0,G0 0]) [(0,1),(1,1),(2,1),(3,1),(4,1),(5,1),(6,1),(7,1),(8,1),(9,1),(10,1),(11,1)] [G0 0,G0 0,BL false,G0 0,G0 0,G0 0,G0 0,G0 0,E0 ([]:List Int),G0 0,G0 0,G0 0] [.int .i64 0,.int .i64 0,.bool false,.int .i64 0,.int .i64 0,.int .i64 0,.int .i64 0,.int .i64 0,.slice none 0 0,.int .i64 0,.int .i64 0,.int .i64 0] Z9 G23 ⟨.inl O,.inl O,.inl O,.inl O,.inl O,.inl O,.inl O,.inl O,.inr ⟨_,O,O⟩,.inl O,.inl O,.inl O,G⟩ O O) O (JLh (E7 ([(G3.mk 0 0 false 2 0 0 0 0 [] 0 0 0),(G3.mk 0 1 false 2 0 0 0 0 [] 0 0 0),(G3.mk 0 0 true 3 0 0 0 0 [] 0 0 0),(G3.mk 0 1 true 3 0 0 0 0 [] 0 0 0),(G3.mk 1 1 true 4 0 0 0 0 [] 0 0 0)])) (H9 (xs:=[.agg [G0 0,G0 0,BL false,G0 2,G0 0,G0 0,G0 0,G0 0,E0 ([]:List Int),G0 0,G0 0,G0 0],.agg [G0 0,G0 1,BL false,G0 2,G0 0,G0 0,G0 0,G0 0,E0 ([]:List Int),G0 0,G0 0,G0 0],.agg [G0 0,G0 0,BL true,G0 3,G0 0,G0 0,G0 0,G0 0,E0 ([]:List Int),G0 0,G0 0,G0 0],.agg [G0 0,G0 1,BL true,G0 3,G0 0,G0 0,G0 0,G0 0,E0 ([]:List Int),G0 0,G0 0,G0 0],.agg [G0 1,G0 1,BL true,G0 4,G0 0,G0 0,G0 0,G0 0,E0 ([]:List Int),G0 0,G0 0,G0 0]]) O ⟨O,O,O,O,O,O,O,O,O,O,G⟩ Hx Zu O O O O) O (JLh (E0 [0,1]) (H9 (xs:=[G0 0,G0 1]) O ⟨O,O,O,O,G⟩ Gj Qd O O O O) O (JLh (.agg [G0 0,E0 [0,1]]) (Hp (cs:=[G0 0,E0 [0,1]]) [(0,1),(1,1)] [G0 0,E0 ([]:List Int)] [.int .i64 0,.slice none 0 0] Gd3 H38 ⟨.inl O,.inr ⟨_,O,O⟩,G⟩ O O) O (JLh (E3 ([(G9.mk 0 [0,1])])) (H9 (xs:=[.agg [G0 0,E0 [0,1]]]) O ⟨O,O,G⟩ Jw G63 O O O O) O (JLh (.agg [E7 ([(G3.mk 0 0 false 2 0 0 0 0 [] 0 0 0),(G3.mk 0 1 false 2 0 0 0 0 [] 0 0 0),(G3.mk 0 0 true 3 0 0 0 0 [] 0 0 0),(G3.mk 0 1 true 3 0 0 0 0 [] 0 0 0),(G3.mk 1 1 true 4 0 0 0 0 [] 0 0 0)]),E3 ([(G9.mk 0 [0,1])]),G0 0,G0 0,G0 0,G0 0,E4 ([]:List Row),E5 ([]:List Frame),E6 ([]:List Gh),G0 0,G0 0,G0 0,G0 0]) (Hp (cs:=[E7 ([(G3.mk 0 0 false 2 0 0 0 0 [] 0 0 0),(G3.mk 0 1 false 2 0 0 0 0 [] 0 0 0),(G3.mk 0 0 true 3 0 0 0 0 [] 0 0 0),(G3.mk 0 1 true 3 0 0 0 0 [] 0 0 0),(G3.mk 1 1 true 4 0 0 0 0 [] 0 0 0)]),E3 ([(G9.mk 0 [0,1])]),G0 0,G0 0,G0 0,G0 0,E4 ([]:List Row),E5 ([]:List Frame),E6 ([]:List Gh),G0 0,G0 0,G0 0,G0 0]) [(0,1),(1,1),(2,4),(6,1),(7,1),(8,1),(9,4)] [E7 ([]:List G3),E3 ([]:List G9),G0 0,G0 0,G0 0,G0 0,E4 ([]:List Row),E5 ([]:List Frame),E6 ([]:List Gh),G0 0,G0 0,G0 0,G0 0] [.slice none 0 0,.slice none 0 0,.int .i64 0,.int .i64 0,.int .i64 0,.int .i64 0,.slice none 0 0,.slice none 0 0,.slice none 0 0,.int .i64 0,.int .i64 0,.int .i64 0,.int .i64 0] J3f G8a ⟨.inr ⟨_,O,O⟩,.inr ⟨_,O,O⟩,.inl O,.inl O,.inl O,.inl O,.inr ⟨_,O,O⟩,.inr ⟨_,O,O⟩,.inr ⟨_,O,O⟩,.inl O,.inl O,.inl O,.inl O,G⟩ O O) O (J8 (u:=.junk) (Ht (u:=.agg [E7 ([(G3.mk 0 0 false 2 0 0 0 0 [] 0 0 0),(G3.mk 0 1 false 2 0 0 0 0 [] 0 0 0),(G3.mk 0 0 true 3 0 0 0 0 [] 0 0 0),(G3.mk 0 1 true 3 0 0 0 0 [] 0 0 0),(G3.mk 1 1 true 4 0 0 0 0 [] 0 0 0)]),E3 ([(G9.mk 0 [0,1])]),G0 0,G0 0,G0 0,G0 0,E4 ([]:List Row),E5 ([]:List Frame),E6 ([]:List Gh),G0 0,G0 0,G0 0,G0 0]) (ds:=[E7 ([(G3.mk 0 0 false 2 0 0 0 0 [] 0 0 0),(G3.mk 0 1 false 2 0 0 0 0 [] 0 0 0),(G3.mk 0 0 true 3 0 0 0 0 [] 0 0 0),(G3.mk 0 1 true 3 0 0 0 0 [] 0 0 0),(G3.mk 1 1 true 4 0 0 0 0 [] 0 0 0)]),E3 ([(G9.mk 0 [0,1])]),G0 0,G0 0,G0 0,G0 0,E4 ([]:List Row),E5 ([]:List Frame),E6 ([]:List Gh),G0 0,G0 0,G0 0,G0 0]) G49 O O O O O O O O) (G7 (hK2 ?_)))))))))))))
 refine Gt (⟨[.agg [E7 ([(G3.mk 0 0 false 2 0 0 0 0 [] 0 0 0),(G3.mk 0 1 false 2 0 0 0 0 [] 0 0 0),(G3.mk 0 0 true 3 0 0 0 0 [] 0 0 0),(G3.mk 0 1 true 3 0 0 0 0 [] 0 0 0),(G3.mk 1 1 true 4 0 0 0 0 [] 0 0 0)]),E3 ([(G9.mk 0 [0,1])]),G0 0,G0 0,G0 0,G0 0,E4 ([]:List Row),E5 ([]:List Frame),E6 ([]:List Gh),G0 0,G0 0,G0 0,G0 0]],[],G,O,⟨⟨_,⟨_,_,_,_,O,O,O,.inl ⟨Hf,O⟩⟩,.conv (.same O)⟩,G⟩,O,congrArg (fun r:Gu=>(.agg (Gu.cs r):AV)) (Option.some.inj h)⟩)

def Jg (box:Int) (column:Int) (tier:Int) (half:Int):Option Stowed:=
 some (Stowed.mk box (Slot.mk column tier half))
theorem Jx (box:Int) (column:Int) (tier:Int) (half:Int) (r:Stowed) (h:Jg box column tier half=some r):Pure Ek 30 [G0 box,G0 column,G0 tier,U8 half] (·=.agg (Stowed.cs r)):=by
 unfold Jg at h
 refine H1 [.cell 8 46] Tryz.func30 O O (Jr fun hK1=>(JLh (.ptr 1064 0) (Ga4 1064 [G0 0,G0 0,G0 0,U8 0] [.int .i64 0,.int .i64 0,.int .i64 0,.int .u8 0] G89 ⟨.inl O,.inl O,.inl O,.inl O,G⟩ O O) O (G7 (hK1 ?_))))
 refine Jr fun hK2=>(Rq (G0 box) O (Rq (G0 column) O (Rq (G0 tier) O (Rq (U8 half) O (JLh (.agg [G0 column,G0 tier,U8 half]) (Hp (cs:=[G0 column,G0 tier,U8 half]) [(0,1),(1,1),(2,1)] [G0 0,G0 0,U8 0] [.int .i64 0,.int .i64 0,.int .u8 0] Gd4 H39 ⟨.inl O,.inl O,.inl O,G⟩ O O) O (JLh (.agg [G0 box,G0 column,G0 tier,U8 half]) (Hp (cs:=[G0 box,G0 column,G0 tier,U8 half]) [(0,1),(1,3)] [G0 0,G0 0,G0 0,U8 0] [.int .i64 0,.int .i64 0,.int .i64 0,.int .u8 0] G79 G89 ⟨.inl O,.inl O,.inl O,.inl O,G⟩ O O) O (J8 (u:=.junk) (Ht (u:=.agg [G0 box,G0 column,G0 tier,U8 half]) (ds:=[G0 box,G0 column,G0 tier,U8 half]) Zv O O O O O O O O) (G7 (hK2 (Gt ?_))))))))))
 exact⟨[.agg [G0 box,G0 column,G0 tier,U8 half]],[],G,O,⟨⟨_,⟨_,_,_,_,O,O,O,.inl ⟨Yz,O⟩⟩,.conv (.same O)⟩,G⟩,O,congrArg (fun r:Stowed=>(.agg (Stowed.cs r):AV)) (Option.some.inj h)⟩

def Rv (p:H7):Option Bool:=
 bnd (Y8 p.s p.x.Slot.G3) fun r4=>
 bnd (bif decide (0≤r4) then Z1 p.s.Columns p.x.Slot.G3 some else some default) fun y6=>
 bnd (bif decide (0≤r4) then Jy p.open_ r4 else some default) fun r7=>
 some ((decide (0≤r4))&&(y6.Deck==r7))
theorem Gee (p:H7) (r:Bool) (h:Rv p=some r):Pure Ek 57 [.agg (H7.cs p)] (·=BL r):=by
 unfold Rv at h
 refine H1 [.tmp 2] Tryz.func57 O O (Jr fun hK1=>(JLh (.ptr 1088 0) (Jf (cs:=(H7.cs p)) 1088 O O O O O) O (Rq (BL false) O (G7 (hK1 ?_)))))
 refine Gs [(1,Ef p)] [] 1088 rfl rfl rfl G rfl (by exact⟨.ptr,G⟩) (Jr fun hK2=>(JLh (Ed p.x) (Gd Yy O O O) O (JLh (.dptr ((Stowed.cs p.x).drop 1)) (Gd J4 O O O) O (JLh (.dptr ((Stowed.cs p.x).drop 1)) (Gd Jd O O O) O (JLh (G0 p.x.Slot.G3) (Gi Ge O O O) O (Rq (G0 p.x.Slot.G3) O (G7 (hK2 ?_))))))))
 refine Jr fun hK3=>(JLh (Ef p) (Gd G8d O O O) O (JLh (.agg (Gu.cs p.s)) (Gk Hf O O O) O (Rq (G0 p.x.Slot.G3) O ?_)))
 obtain⟨r4,hr4,h⟩:=Gg h
 refine JLh (G0 r4) (Gw O (Gc8 p.s p.x.Slot.G3 r4 hr4) He0 ⟨O,O,O,O,G⟩) O (Rq (G0 r4) O (G7 (hK3 (Js fun hK5=>?_))))
 obtain⟨y6,hy6,h⟩:=Gg h
 obtain⟨r7,hr7,h⟩:=Gg h
 refine JC_d0 Qo (by kernel_rfl) (Dq (G0 r4) (G6 O O) O (Dq (BL (decide (0≤r4))) (Ga1 O O O) O (Dq (BL (decide (0≤r4))) (G6 O O) O (Do (Ef p) [] O .sct G (fun hc=>Gd G8d O O O) O (Do (Ef p) [16] O .sct ⟨Ua,G⟩ (fun hc=>Gd Hq O O O) O (Do (E7 p.s.Columns) [17] O .sct ⟨Ua,G⟩ (fun hc=>Gi J6 O O O) O (Do (G0 p.x.Slot.G3) [] O .sct G (fun hc=>G6 O O) O (Do (Ee y6) [18,19] O .sct ⟨Ua,Ua,G⟩ (fun hc=>(match Ya (H6 hc hy6) with | ⟨_,hm_,hy_⟩=>He (f:=G3.av) (xs:=p.s.Columns) (y:=y6) O O O Hx hy_ hm_)) O (Do (.dptr ((G3.cs y6).drop 2)) [20] O .sct ⟨Ua,G⟩ (fun hc=>Gd Ym O O O) O (Do (BL y6.Deck) [21] O .sct ⟨Ua,G⟩ (fun hc=>Gi Qn O O O) O (Do (.dptr [E0 p.open_,G0 p.x.Ga,G0 p.x.Slot.G3,G0 p.x.Slot.Tier,U8 p.x.Slot.Half]) [] O .sct G (fun hc=>Gd Hd3 O O O) O (Do (E0 p.open_) [23] O .sct ⟨Ua,G⟩ (fun hc=>Gi Z8 O O O) O (Do (G0 r4) [] O .sct G (fun hc=>G6 O O) O ?_)))))))))))))
 refine Do (BL r7) [24,25] O .sct ⟨Ua,Ua,G⟩ (fun hc=>Gw (args:=[E0 p.open_,G0 r4]) O (Z4 p.open_ r4 r7 (H6 hc hr7)) H3c ⟨O,O,O,O,G⟩) O (Do (BL (y6.Deck==r7)) [22,26] O .sct ⟨Ua,Ua,G⟩ (fun hc=>J27 H7f O O O) O (Dq (BL ((decide (0≤r4))&&(y6.Deck==r7))) (Qu O O O O) O (Dq (BL ((decide (0≤r4))&&(y6.Deck==r7))) (G8 O O) O (Dnil (hK5 (Gt (fin1 BL h)))))))

def Q6 (y:Stowed) (p1:H7):Option Bool:=
 bnd (G2f p1.x.Slot y.Slot) fun r3=>
 some r3
theorem Ge4 (y:Stowed) (p1:H7) (r:Bool) (h:Q6 y p1=some r):Pure Ek 90 [.agg (Stowed.cs y),Ef p1] (·=BL r):=by
 unfold Q6 at h
 refine H1 [.tmp 3] Tryz.func90 O O (Jr fun hK1=>(JLh (.ptr 1109 0) (Jf (cs:=[G0 y.Ga,G0 y.Slot.G3,G0 y.Slot.Tier,U8 y.Slot.Half]) 1109 O O O O O) O (Rq (BL false) O (G7 (hK1 (Gs [(1,Ef p1),(2,Ed y)] [] 1109 rfl rfl rfl G rfl (by exact⟨.conv (.same rfl),.ptr,G⟩) (Jr fun hK2=>(JLh (.dptr ((H7.cs p1).drop 16)) (Gd Yy O O O) O (JLh (.dptr ((H7.cs p1).drop 17)) (Gd J4 O O O) O (JLh (.agg ((H7.cs p1).drop 17)) (Gk Q2 O O O) O (JLh (.dptr ((Stowed.cs y).drop 1)) (Gd J4 O O O) O (JLh (.agg ((Stowed.cs y).drop 1)) (Gk Q2 O O O) O ?_))))))))))))
 obtain⟨r3,hr3,h⟩:=Gg h
 refine JLh (BL r3) (Gw O (H32 p1.x.Slot y.Slot r3 hr3) He3 ⟨O,O,O,O,G⟩) O (Rq (BL r3) O (G7 (hK2 (Gt (fin1 BL h)))))

def Q4 (s:List Stowed) (f:Stowed→Option Bool):Option Bool:=
 bnd (Jo s f) fun r3=>
 some (decide (0≤r3))
theorem G33 (s:List Stowed) (f:Stowed→Option Bool) (f_f:FuncId) (f_c:List AV) (f_B:Hc Ek f_f=true) (f_d:Rj (fun _=>false) f_c=true) (f_w:∀ a0 q,f a0=some q→Pure Ek f_f ([.agg (Stowed.cs a0)]++f_c) (·=BL q)) (r:Bool) (h:Q4 s f=some r):Pure Ek 89 [E1 s,.fn f_f f_c] (·=BL r):=by
 unfold Q4 at h
 refine H1 [.tmp 4] Tryz.func89 O O (Jr fun hK1=>(Rq (BL false) O (G7 (hK1 (Jr fun hK2=>(Rq (E1 s) O (Rq (.fn f_f f_c) O ?_)))))))
 obtain⟨r3,hr3,h⟩:=Gg h
 refine JLh (G0 r3) (Gw O (Z3 s f f_f f_c f_B f_d f_w r3 hr3) Hdf ⟨O,O,O,f_d,G⟩) O (JLh (BL (decide (0≤r3))) (Ga1 O O O) O (Rq (BL (decide (0≤r3))) O (G7 (hK2 (Gt (fin1 BL h))))))

def Y6 (p:H7):Option Bool:=
 bnd (Q4 p.l (fun z0=>Q6 z0 p)) fun r3=>
 some r3
theorem H0a (p:H7) (r:Bool) (h:Y6 p=some r):Pure Ek 58 [.agg (H7.cs p)] (·=BL r):=by
 unfold Y6 at h
 refine H1 [.tmp 2] Tryz.func58 O O (Jr fun hK1=>(JLh (.ptr 1089 0) (Jf (cs:=(H7.cs p)) 1089 O O O O O) O (Rq (BL false) O (G7 (hK1 ?_)))))
 refine Gs [(1,Ef p)] [] 1089 rfl rfl rfl G rfl (by exact⟨.ptr,G⟩) ?_
 refine Jr fun hK2=>(JLh (.dptr [E1 p.l,E0 p.open_,G0 p.x.Ga,G0 p.x.Slot.G3,G0 p.x.Slot.Tier,U8 p.x.Slot.Half]) (Gd Zw O O O) O (JLh (E1 p.l) (Gi Qv O O O) O (JLh (.fn 90 [.dptr (H7.cs p)]) (Yv (cs:=[.dptr (H7.cs p)]) O O) O ?_)))
 obtain⟨r3,hr3,h⟩:=Gg h
 refine JLh (BL r3) (Gw O (G33 p.l (fun z0=>Q6 z0 p) 90 [.dptr (H7.cs p)] J6e O (fun z0 q hq=>Ge4 z0 p q hq) r3 hr3) J6f ⟨O,O,O,O,G⟩) O (Rq (BL r3) O (G7 (hK2 (Gt (fin1 BL h)))))

def Yg (p:H7):Option Bool:=
 bnd (G0d p.l) fun r3=>
 bnd (G30 p.x.Slot r3) fun r4=>
 some (!r4)
theorem Ge5 (p:H7) (r:Bool) (h:Yg p=some r):Pure Ek 59 [.agg (H7.cs p)] (·=BL r):=by
 unfold Yg at h
 refine H1 [.tmp 2] Tryz.func59 O O (Jr fun hK1=>(JLh (.ptr 1090 0) (Jf (cs:=(H7.cs p)) 1090 O O O O O) O (Rq (BL false) O (G7 (hK1 ?_)))))
 refine Gs [(1,Ef p)] [] 1090 rfl rfl rfl G rfl (by exact⟨.ptr,G⟩) (Js fun hK2=>?_)
 obtain⟨r3,hr3,h⟩:=Gg h
 obtain⟨r4,hr4,h⟩:=Gg h
 refine JC_d0 Qo (by kernel_rfl) (Dq (Ed p.x) (Gd Yy O O O) O (Dq (.dptr ((Stowed.cs p.x).drop 1)) (Gd J4 O O O) O (Dq (.agg ((Stowed.cs p.x).drop 1)) (Gk Q2 O O O) O (Dq (.dptr [E1 p.l,E0 p.open_,G0 p.x.Ga,G0 p.x.Slot.G3,G0 p.x.Slot.Tier,U8 p.x.Slot.Half]) (Gd Zw O O O) O (Dq (E1 p.l) (Gi Qv O O O) O (Dq (E8 r3) (Gw (args:=[E1 p.l]) O (H09 p.l r3 hr3) He6 ⟨O,O,G⟩) O (Dq (BL r4) (Gw (args:=[.agg ((Stowed.cs p.x).drop 1),E8 r3]) O (H33 p.x.Slot r3 r4 hr4) He4 ⟨O,O,O,O,G⟩) O (Dq (BL (!r4)) (G06 (b:=r4) O O) O (Dq (BL (!r4)) (G8 O O) O (Dnil (hK2 (Gt (fin1 BL h)))))))))))))

def Qg (F:Nat) (p:H7):Option (List Stowed):=
 loop (fun nx10 (s10:Int)=>
  bnd (bif decide (s10 < (p.l.length:Int)) then Z1 p.l s10 some else some default) fun y13=>
  bif ((decide (s10 < (p.l.length:Int)))&&(decide (y13.Ga < p.x.Ga))) then
  (G15 (s10+1) fun v14=>
   nx10 v14)
  else
  (bnd (Qf p.l s10 p.x) fun r16=>
   some r16)) F 0
theorem G2d (F:Nat) (p:H7) (r:(List Stowed)) (h:Qg F p=some r):Pure Ek 61 [.agg (H7.cs p)] (·=E1 r):=by
 unfold Qg at h
 refine H1 [.tmp 2] Tryz.func61 O O (Jr fun hK1=>(JLh (.ptr 1092 0) (Jf (cs:=(H7.cs p)) 1092 O O O O O) O (JLh (E1 ([]:List Stowed)) (Hj 4 O O) O (G7 (hK1 ?_)))))
 refine Gs [(1,Ef p)] [] 1092 rfl rfl rfl G rfl (by exact⟨.ptr,G⟩) (Jr fun hK2=>(Rq (G0 0) O (G7 (hK2 (Js fun hK3=>Gv ?_)))))
 obtain⟨b10,hb10,h⟩:=loop_in h
 refine Hr (fun i10 (s10:Int)=>loop b10 i10 s10=some r) (fun i10 s10=>[(1,Ef p),(3,G0 s10)]) (fun i10 s10=>[]) (fun i10=>i10) F 0 h ⟨⟨.same O,.same O,G⟩,G,O⟩ ?_
 clear h
 intro i10 s10 hi10 K10 e10
 obtain⟨m10,nx10,hm_10,hn10,h⟩:=Hff hi10
 replace h:=app2 hb10 h
 refine Js fun hK11=>Js fun hK12=>?_
 obtain⟨y13,hy13,h⟩:=Gg h
 refine JC_d0 Qo (by kernel_rfl) (Dq (G0 s10) (G6 O O) O (Dq (.dptr [E1 p.l,E0 p.open_,G0 p.x.Ga,G0 p.x.Slot.G3,G0 p.x.Slot.Tier,U8 p.x.Slot.Half]) (Gd Zw O O O) O (Dq (E1 p.l) (Gi Qv O O O) O (Dq (Ej p.l.length) (Z6 (f:=Stowed.av) (xs:=p.l) Hd O O) O (Dq (BL (decide (s10 < (p.l.length:Int)))) (Jc O O O) O (Dq (BL (decide (s10 < (p.l.length:Int)))) (G6 O O) O (Do (.dptr [E1 p.l,E0 p.open_,G0 p.x.Ga,G0 p.x.Slot.G3,G0 p.x.Slot.Tier,U8 p.x.Slot.Half]) [] O .sct G (fun hc=>Gd Zw O O O) O (Do (E1 p.l) [10] O .sct ⟨Ua,G⟩ (fun hc=>Gi Qv O O O) O (Do (G0 s10) [] O .sct G (fun hc=>G6 O O) O (Do (Ed y13) [11,12] O .sct ⟨Ua,Ua,G⟩ (fun hc=>(match Ya (H6 hc hy13) with | ⟨_,hm_,hy_⟩=>He (f:=Stowed.av) (xs:=p.l) (y:=y13) O O O Hd hy_ hm_)) O (Do (Ed y13) [13] O .sct ⟨Ua,G⟩ (fun hc=>Gd Jq O O O) O (Do (G0 y13.Ga) [14] O .sct ⟨Ua,G⟩ (fun hc=>Gi Ge O O O) O (Do (Ed p.x) [] O .sct G (fun hc=>Gd Yy O O O) O ?_)))))))))))))
 refine Do (Ed p.x) [16] O .sct ⟨Ua,G⟩ (fun hc=>Gd Jq O O O) O (Do (G0 p.x.Ga) [17] O .sct ⟨Ua,G⟩ (fun hc=>Gi Ge O O O) O (Do (BL (decide (y13.Ga < p.x.Ga))) [15,18] O .sct ⟨Ua,Ua,G⟩ (fun hc=>Jc O O O) O (Dq (BL ((decide (s10 < (p.l.length:Int)))&&(decide (y13.Ga < p.x.Ga)))) (Qu O O O O) O (Dnil (hK12 (JCc O h (fun h hb=>?_) (fun h hb=>?_)))))))
 ·
  refine Gp (hK11 (Gv (G4 (Rq (G0 s10) O ?_))))
  obtain⟨v14,hv14,h⟩:=Jj h
  refine JLh (G0 v14) (J0 hv14 O O O) O (Rq (G0 v14) O (G7 (e10 _ _ m10 v14 (app1 hn10 h) (by omega) ⟨⟨.same rfl,.same rfl,G⟩,G,rfl⟩)))
 ·
  refine Hy (hK3 (Jr fun hK15=>(JLh (.dptr [E1 p.l,E0 p.open_,G0 p.x.Ga,G0 p.x.Slot.G3,G0 p.x.Slot.Tier,U8 p.x.Slot.Half]) (Gd Zw O O O) O (JLh (E1 p.l) (Gi Qv O O O) O (Rq (G0 s10) O (JLh (Ed p.x) (Gd Yy O O O) O (JLh (.agg (Stowed.cs p.x)) (Gk Yz O O O) O ?_)))))))
  obtain⟨r16,hr16,h⟩:=Gg h
  refine JLh (E1 r16) (Gw O (Gc5.down p.l s10 p.x r16 hr16) J6d ⟨O,O,O,O,O,O,G⟩) O (Rq (E1 r16) O (G7 (hK15 (Gt (fin1 (fun r:(List Stowed)=>(E1 r:AV)) h)))))

def Yx (F:Nat) (p:H7):Option Bool:=
 bnd (Qg F p) fun r3=>
 bnd (Zz p.s p.boxes r3 p.x.Slot.G3) fun r4=>
 some (!r4)
theorem Gef (F:Nat) (p:H7) (r:Bool) (h:Yx F p=some r):Pure Ek 60 [.agg (H7.cs p)] (·=BL r):=by
 unfold Yx at h
 refine H1 [.tmp 2] Tryz.func60 O O (Jr fun hK1=>(JLh (.ptr 1091 0) (Jf (cs:=(H7.cs p)) 1091 O O O O O) O (Rq (BL false) O (G7 (hK1 ?_)))))
 refine Gs [(1,Ef p)] [] 1091 rfl rfl rfl G rfl (by exact⟨.ptr,G⟩) (Js fun hK2=>?_)
 obtain⟨r3,hr3,h⟩:=Gg h
 obtain⟨r4,hr4,h⟩:=Gg h
 refine JC_d0 Qo (by kernel_rfl) (Dq (Ef p) (Gd G8d O O O) O (Dq (.agg (Gu.cs p.s)) (Gk Hf O O O) O (Dq (.dptr [E2 p.boxes,E1 p.l,E0 p.open_,G0 p.x.Ga,G0 p.x.Slot.G3,G0 p.x.Slot.Tier,U8 p.x.Slot.Half]) (Gd Hd4 O O O) O (Dq (E2 p.boxes) (Gi J3d O O O) O (Dq (.agg (H7.cs p)) (Gk G4b O O O) O (Dq (E1 r3) (Gw (args:=[.agg (H7.cs p)]) O (G2d F p r3 hr3) Hdb ⟨O,O,G⟩) O (Dq (Ed p.x) (Gd Yy O O O) O (Dq (.dptr ((Stowed.cs p.x).drop 1)) (Gd J4 O O O) O (Dq (.dptr ((Stowed.cs p.x).drop 1)) (Gd Jd O O O) O (Dq (G0 p.x.Slot.G3) (Gi Ge O O O) O (Dq (BL r4) (Gw (args:=[.agg (Gu.cs p.s),E2 p.boxes,E1 r3,G0 p.x.Slot.G3]) O (H30 p.s p.boxes r3 p.x.Slot.G3 r4 hr4) He2 ⟨O,O,O,O,O,O,O,O,G⟩) O (Dq (BL (!r4)) (G06 (b:=r4) O O) O (Dq (BL (!r4)) (G8 O O) O (Dnil ?_))))))))))))))
 refine hK2 (Gt (fin1 BL h))
end
end Go.Proofs.YtapmanciffiibaaGreat
