/-
 Models of functions of the program,and that they return what the models say.
-/
import Derived.Test.YtbljcmgjmieffaaGreatXB
set_option linter.unnecessarySimpa false
set_option maxRecDepth 100000
set_option linter.unusedVariables false
set_option linter.unusedSimpArgs false
namespace Go.Proofs.YtbljcmgjmieffaaGreat
open Go.RowKit
noncomputable section
structure Gy where
 G3:Int
 Kilos:Int
 Small:Bool
 High:Bool
 deriving DecidableEq,Inhabited
def Gy.cs (x:Gy):List AV:=[U8 x.G3,U8 x.Kilos,BL x.Small,BL x.High]
def Gy.av (x:Gy):AV:=.agg x.cs
abbrev Eg (x:Gy):AV:=.dptr (Gy.cs x)
abbrev Ea:=LS 4 Gy.av
structure Ha where
 s:Gw
 boxes:List Gb
 l:List Stowed
 open_:List Int
 x:Stowed
 deriving DecidableEq,Inhabited
def Ha.cs (x:Ha):List AV:=[E7 x.s.Columns,E6 x.s.Covers,G0 x.s.Light.Kilos,G0 x.s.Light.X,G0 x.s.Light.Y,G0 x.s.Light.Z,E3 x.s.Rows,E4 x.s.Frames,E5 x.s.Tanks,G0 x.s.G2.Tolerance,G0 x.s.G2.Trim,G0 x.s.G2.List_,G0 x.s.G2.Stability,E2 x.boxes,E1 x.l,E0 x.open_,G0 x.x.Gb,G0 x.x.Slot.G3,G0 x.x.Slot.Tier,U8 x.x.Slot.Half]
def Ha.av (x:Ha):AV:=.agg x.cs
abbrev Ef (x:Ha):AV:=.dptr (Ha.cs x)
namespace XPF
open XAF
open XCF
open XGF
open XBF
theorem tf_agg_58:G61 Ek 58 4=true:=by kernel_rfl
theorem G78:G61 Ek 98 20=true:=by kernel_rfl
theorem H09:arr1B Ek 99 4=true:=by kernel_rfl
theorem tf_arr_99:arrB Ek 99 42 1=true:=by kernel_rfl
theorem G1d:Hb Ek 10=true:=by kernel_rfl
theorem Gcd:Hb Ek 12=true:=by kernel_rfl
theorem J7d:Hb Ek 13=true:=by kernel_rfl
theorem H32:Hb Ek 15=true:=by kernel_rfl
theorem Hdc:Hb Ek 16=true:=by kernel_rfl
theorem G1c:Hb Ek 21=true:=by kernel_rfl
theorem J7b:Hb Ek 23=true:=by kernel_rfl
theorem J7a:Hb Ek 24=true:=by kernel_rfl
theorem J77:Hb Ek 32=true:=by kernel_rfl
theorem J76:Hb Ek 33=true:=by kernel_rfl
theorem J75:Hb Ek 34=true:=by kernel_rfl
theorem J74:Hb Ek 39=true:=by kernel_rfl
theorem J73:Hb Ek 40=true:=by kernel_rfl
theorem J72:Hb Ek 41=true:=by kernel_rfl
theorem J71:Hb Ek 42=true:=by kernel_rfl
theorem Hd8:Hb Ek 43=true:=by kernel_rfl
theorem J6e:Hb Ek 51=true:=by kernel_rfl
theorem J6b:Hb Ek 59=true:=by kernel_rfl
theorem Hd0:Hb Ek 60=true:=by kernel_rfl
theorem J66:Hb Ek 69=true:=by kernel_rfl
theorem tf_call_7:Hb Ek 7=true:=by kernel_rfl
theorem J65:Hb Ek 70=true:=by kernel_rfl
theorem J64:Hb Ek 71=true:=by kernel_rfl
theorem J60:Hb Ek 79=true:=by kernel_rfl
theorem tf_call_8:Hb Ek 8=true:=by kernel_rfl
theorem J21:Hb Ek 9=true:=by kernel_rfl
theorem Hcb:Hb Ek 94=true:=by kernel_rfl
theorem J5a:Qy Ek 67 9 64=true:=by kernel_rfl
theorem J1d:J8 Ek 58 0 0=true:=by kernel_rfl
theorem J1c:J8 Ek 58 1 1=true:=by kernel_rfl
theorem J1b:J8 Ek 58 2 2=true:=by kernel_rfl
theorem J1a:J8 Ek 58 3 3=true:=by kernel_rfl
theorem Ga9:J8 Ek 98 0 0=true:=by kernel_rfl
theorem J19:J8 Ek 98 1 13=true:=by kernel_rfl
theorem G09:J8 Ek 98 2 14=true:=by kernel_rfl
theorem J18:J8 Ek 98 3 15=true:=by kernel_rfl
theorem Yz:J8 Ek 98 4 16=true:=by kernel_rfl
theorem Hc1:H59 Ek 117 .u64=true:=by kernel_rfl
theorem H71:G31 Ek 53 3 3=true:=by kernel_rfl
theorem J2d:placesOf Ek 36=some [(0,1),(1,1),(2,4),(6,1),(7,1),(8,1),(9,4)]:=by kernel_rfl
theorem G6a:placesOf Ek 47=some [(0,1),(1,3)]:=by kernel_rfl
theorem J2b:placesOf Ek 98=some [(0,13),(13,1),(14,1),(15,1),(16,4)]:=by kernel_rfl
theorem J2a:Qj Ek 38=true:=by kernel_rfl
theorem tf_size_4:Qo Ek 4 1=true:=by kernel_rfl
theorem tf_size_5:Qo Ek 5 1=true:=by kernel_rfl
theorem J59:Qo Ek 58 4=true:=by kernel_rfl
theorem J58:Qo Ek 76 1=true:=by kernel_rfl
theorem J54:Qo Ek 98 20=true:=by kernel_rfl
theorem G9e:sliceB Ek 24 58 4=true:=by kernel_rfl
theorem G7c:(Ek.info? 47).bind (fun i=>i.zero.map Value.cells)=some (List.toArray [.int .i64 0,.int .i64 0,.int .i64 0,.int .u8 0]):=by kernel_rfl
theorem J53:(Ek.info? 76).bind (fun i=>i.zero.map Value.cells)=some (List.toArray [.slice none 0 0]):=by kernel_rfl
theorem J51:(Ek.info? 98).bind (fun i=>i.zero.map Value.cells)=some (List.toArray [.slice none 0 0,.slice none 0 0,.int .i64 0,.int .i64 0,.int .i64 0,.int .i64 0,.slice none 0 0,.slice none 0 0,.slice none 0 0,.int .i64 0,.int .i64 0,.int .i64 0,.int .i64 0,.slice none 0 0,.slice none 0 0,.slice none 0 0,.int .i64 0,.int .i64 0,.int .i64 0,.int .u8 0]):=by kernel_rfl
theorem J50:(Ek.info? 99).bind (fun i=>i.zero.map Value.cells)=some (List.toArray [.nilFunc,.nilFunc,.nilFunc,.nilFunc]):=by kernel_rfl
theorem J37:Q8 Ek 58 4=true:=by kernel_rfl
theorem J33:Q8 Ek 98 20=true:=by kernel_rfl
end XPF
open XAF
open XCF
open XGF
open XBF
open XPF

def G72 (s:Gw) (size:Int):Option Unit:=
 some ()
theorem J06 (s:Gw) (size:Int) (r:Unit) (h:G72 s size=some r):Pure Ek 51 [.agg (Gw.cs s),U8 size] (·=.fn 79 [.dptr (Gw.cs s),.dptr [U8 size]]):=by
 unfold G72 at h
 refine H1 [.tmp 4] Tryz.func51 O O (Jr fun hK1=>(JLh (.ptr 1083 0) (Jn (cs:=(Gw.cs s)) 1083 O O O O O) O (JLh (.ptr 1084 0) (Jn (cs:=[U8 size]) 1084 O O O O O) O (Qk (.sc .nilFunc) O (G7 (hK1 ?_))))))
 refine Gt [(2,Ec s),(3,.ptr 1084 0)] [(1084,.box 5 [U8 size])] 1083 rfl rfl rfl ⟨⟨_,rfl,.boxEq rfl rfl⟩,G⟩ rfl (by exact⟨.ptr,.conv (.same rfl),G⟩) (Gt [(2,Ec s),(3,.dptr [U8 size])] [] 1084 rfl rfl rfl G rfl (by exact⟨.conv (.same rfl),.ptr,G⟩) ?_)
 refine Jr fun hK2=>(JLh (.fn 79 [.dptr (Gw.cs s),.dptr [U8 size]]) (Yh (cs:=[.dptr (Gw.cs s),.dptr [U8 size]]) O O) O (Qk (.fn 79 [.dptr (Gw.cs s),.dptr [U8 size]]) O (G7 (hK2 ?_))))
 refine Gu (⟨[.fn 79 [.dptr (Gw.cs s),.dptr [U8 size]]],[],G,O,⟨⟨_,O,.conv (.same O)⟩,G⟩,O,congrArg (fun _:Unit=>(.fn 79 [.dptr (Gw.cs s),.dptr [U8 size]]:AV)) (Option.some.inj h)⟩)

def G92 (s:Gw) (size:Int):Option (List Slot):=
 bnd (G72 s size) fun r5=>
 bnd (G33 s size) fun ys8=>
 each (fun y8 i8 (s8:(List Slot)) nx8=>
  need (decide ((s8.length+[y8].length)*24≤140737488355328∧s8.length+[y8].length≤maxLen)) <|
  nx8 (s8++[y8]))
 (fun(s8:(List Slot))=>
  some s8) ys8 0 []
theorem M_slot_All_w (s:Gw) (size:Int) (r:(List Slot)) (h:G92 s size=some r):Pure Ek 23 [.agg (Gw.cs s),U8 size] (·=E8 r):=by
 unfold G92 at h
 refine H1 [.tmp 4] Tryz.func23 O O (Jr fun hK1=>(JLh (.ptr 1043 0) (Jn (cs:=(Gw.cs s)) 1043 O O O O O) O (JLh (E8 ([]:List Slot)) (Hj 3 O O) O (G7 (hK1 (Gt [(1,U8 size),(2,Ec s)] [] 1043 rfl rfl rfl G rfl (by exact⟨.conv (.same rfl),.ptr,G⟩) ?_))))))
 refine Jr fun hK2=>(JLh (.ptr 1044 0) (G98 1044 [.sc (.slice none 0 0)] [.slice none 0 0] J53 ⟨.inl O,G⟩ O O) O (J0c 1044 0 1046 45 3 O O O (cs':=[OW 1046 3 Slot.av ([]:List Slot)]) O (G7 (hK2 (Js fun hK3=>Jr fun hK4=>(JLh (.agg (Gw.cs s)) (Gj Hd O O O) O (Qk (U8 size) O ?_)))))))
 obtain⟨r5,hr5,h⟩:=Gf h
 refine JLh (.fn 79 [.dptr (Gw.cs s),.dptr [U8 size]]) (Gv O (J06 s size r5 hr5) J6e ⟨O,O,O,O,G⟩) O (G7 (hK4 (Gx ?_)))
 obtain⟨ys8,hy_8,h⟩:=Gf h
 obtain⟨b8,kx8,hb8,hkx8,h⟩:=Jh h
 refine J2f (ps:=[10]) [(5,.ptr 1044 0),(9,.fn 79 [.dptr (Gw.cs s),.dptr [U8 size]])] (ys8.map (fun y:Slot=>[.agg [G0 y.G3,G0 y.Tier,U8 y.Half]])) (fun i8 (s8:(List Slot))=>each b8 kx8 (List.drop i8 ys8) i8 s8=some r) (fun s8=>[(1046,.spare 45 3 s8.length s8.length),(1044,.box 76 [OW 1046 3 Slot.av s8])]) [] rfl rfl rfl J60 (H80.down s size ys8 hy_8) h ⟨⟨.same rfl,.same rfl,trivial⟩,⟨⟨_,rfl,.same⟩,⟨_,rfl,.boxL rfl ⟨.same rfl,trivial⟩⟩,trivial⟩,rfl⟩ rfl (fun us_ hus_=>by obtain⟨_,_,rfl⟩:=List.mem_map.1 hus_; rfl) (fun p_ hp_=>Nat.blt_eq.mp (by revert p_; decide)) (fun _=>⟨.same rfl,.same rfl,trivial⟩) (fun _=>rfl) ?_ ?_
 ·
  intro i8 us_ s8 hu_ hi8 lr_ K8 e8
  obtain⟨hk8,rfl⟩:=mapf_at hu_
  obtain⟨y8,nx8,hy8,hn8,h⟩:=J3 hi8 hk8
  replace h:=Zv hb8 h
  obtain⟨_,rfl⟩:=List.getElem?_eq_some_iff.1 hy8
  generalize ys8[i8]=y8 at h ⊢
  change JC _ _ _ _ [(10,.agg [G0 y8.G3,G0 y8.Tier,U8 y8.Half]),(5,.ptr 1044 0),(9,.fn 79 [.dptr (Gw.cs s),.dptr [U8 size]])] [(1046,.spare 45 3 s8.length s8.length),(1044,.box 76 [OW 1046 3 Slot.av s8])]
  refine G4 (JLh (.ptr 1045 0) (Jd 1045 3 G4e O O) O (J5 (u:=.junk) (Hp (u:=.agg [G0 y8.G3,G0 y8.Tier,U8 y8.Half]) (ds:=[G0 y8.G3,G0 y8.Tier,U8 y8.Half]) H2c O O O O O O O O) (G7 (Mid_freeze [(5,.ptr 1044 0),(6,.dptr [G0 y8.G3,G0 y8.Tier,U8 y8.Half])] [(1046,.spare 45 3 s8.length s8.length),(1044,.box 76 [OW 1046 3 Slot.av s8])] 1045 rfl rfl rfl ⟨⟨_,rfl,.same⟩,⟨_,rfl,.boxEq rfl rfl⟩,G⟩ rfl (by exact⟨.conv (.same rfl),.ptr,G⟩) (Mid_go (Gx (G4 (JLh (OW 1046 3 Slot.av s8) (R2 Gc8 O O O O) O (JLh (.agg [G0 y8.G3,G0 y8.Tier,U8 y8.Half]) (Gj Jw O O O) O (JLh (E8 [y8]) (H4 (xs:=[.agg [G0 y8.G3,G0 y8.Tier,U8 y8.Half]]) O ⟨O,O,G⟩ R7 G4e O O O O) O ?_))))))))))
  obtain⟨ha9,h⟩:=Jf h
  refine JLh (OW 1046 3 Slot.av (s8++[y8])) (Y2 (f:=Slot.av) (xs:=s8) (ys:=[y8]) O O O O R7 Hc9 ha9 (fun _=>O) (.inl O) O) O (J5 (u:=.junk) (Hp (u:=OW 1046 3 Slot.av (s8++[y8])) (ds:=[OW 1046 3 Slot.av (s8++[y8])]) J58 O O O O O O O O) (G7 (e8 _ _ (s8++[y8]) (app1 hn8 h) ⟨G,⟨⟨_,O,.same⟩,⟨_,O,.boxL O ⟨.same O,G⟩⟩,G⟩,O⟩)))
 ·
  intro s8 h
  rw [List.length_map] at h
  replace h:=app1 hkx8 (J4 h (Nat.lt_irrefl _))
  refine hK3 (Jr fun hK10=>(JLh (OW 1046 3 Slot.av s8) (R2 Gc8 O O O O) O (Qk (OW 1046 3 Slot.av s8) O (G7 (hK10 (Yk (l':=[(4,E8 s8)]) (L':=[(1044,.box 76 [E8 s8])]) ⟨⟨.list O,G⟩,⟨⟨_,O,.boxL O ⟨.list O,G⟩⟩,G⟩,O⟩ (Gt [(4,E8 s8)] [] 1044 rfl rfl rfl G rfl (by exact⟨.conv (.same rfl),G⟩) (Gu (fin1 (fun r:(List Slot)=>(E8 r:AV)) h)))))))))

def Qg (s:Gw) (l:List Gy) (most:Int):Option ((List Gb)×(List Stowed)):=
 bnd (Gf0 (min (l.length:Int) most) l.length) fun m6=>
 each (fun y7 i7 (s7:(List Gb)×(List Stowed)) nx7=>
  jp (fun kj10=>
   Zf (5*((i7+1:Nat):Int)) fun v13=>
   Zf (y7.Kilos) fun v14=>
   Zf (100*v14) fun v15=>
   Zf (1000+v15) fun v16=>
   jp (fun kj17=>
    bif y7.Small then
    (kj17 (20,false))
    else
    (kj17 (40,y7.High))) fun(j17:Int×Bool)=>
   need (decide ((s7.1.length+[(Gb.mk v13 ByteArray.empty j17.1 j17.2 v16 0 1 0 false)].length)*64≤140737488355328∧s7.1.length+[(Gb.mk v13 ByteArray.empty j17.1 j17.2 v16 0 1 0 false)].length≤maxLen)) <|
   bnd (G92 s j17.1) fun r22=>
   each (fun y49 i49 (s49:(List Stowed)) nx49=>
    need (decide ((([]:List Stowed).length+s49.length)*32≤140737488355328∧([]:List Stowed).length+s49.length≤maxLen)) <|
    need (decide (((([]:List Stowed)++s49).length+[(Stowed.mk v13 y49)].length)*32≤140737488355328∧(([]:List Stowed)++s49).length+[(Stowed.mk v13 y49)].length≤maxLen)) <|
    Zf (y7.G3) fun v58=>
    bnd (H20 v58 (s.Columns.length:Int)) fun v59=>
    bnd (bif decide (y49.G3=v59) then Rk s (s7.1++[(Gb.mk v13 ByteArray.empty j17.1 j17.2 v16 0 1 0 false)]) ((([]:List Stowed)++s49)++[(Stowed.mk v13 y49)]) else some default) fun r60=>
    bif ((decide (y49.G3=v59))&&r60) then
    (kj10 ((s7.1++[(Gb.mk v13 ByteArray.empty j17.1 j17.2 v16 0 1 0 false)]),((([]:List Stowed)++s49)++[(Stowed.mk v13 y49)])))
    else
    (nx49 s49))
   (fun(s49:(List Stowed))=>
    kj10 ((s7.1++[(Gb.mk v13 ByteArray.empty j17.1 j17.2 v16 0 1 0 false)]),s49)) r22 0 s7.2) fun(j10:(List Gb)×(List Stowed))=>
  nx7 (j10.1,j10.2))
 (fun(s7:(List Gb)×(List Stowed))=>
  some (s7.1,s7.2)) (l.take m6) 0 ([],[])
theorem G9a (s:Gw) (l:List Gy) (most:Int) (r:(List Gb)×(List Stowed)) (h:Qg s l most=some r):Pure Ek 8 [.agg (Gw.cs s),Ea l,G0 most] (·=.tup [E2 r.1,E1 r.2]):=by
 unfold Qg at h
 refine H1 [.tmp 6,.tmp 7] Tryz.func8 O O (Jr fun hK1=>(JLh (.ptr 1010 0) (Jn (cs:=(Gw.cs s)) 1010 O O O O O) O (JLh (E2 ([]:List Gb)) (Hj 9 O O) O (JLh (E1 ([]:List Stowed)) (Hj 4 O O) O (G7 (hK1 ?_))))))
 refine Gt [(1,Ea l),(2,G0 most),(3,Ec s)] [] 1010 rfl rfl rfl G rfl (by exact⟨.conv (.same rfl),.conv (.same rfl),.ptr,G⟩) (Jr fun hK2=>(JLh (OW 1011 9 Gb.av ([]:List Gb)) (G5d 1011 67 9 O O O) O (G7 (hK2 (Jr fun hK3=>(JLh (E1 ([]:List Stowed)) (Hj 4 O O) O (G7 (hK3 (Js fun hK4=>Jr fun hK5=>(Qk (Ea l) O (Qk (Ea l) O (JLl G9e O O O fun hm18=>(Qk (G0 most) O (JLh (G0 (min (l.length:Int) most)) (A_min O O O) O ?_))))))))))))))
 obtain⟨m6,hm6,h⟩:=Gf h
 refine JLh (Ea (l.take m6)) (H43 (f:=Gy.av) (xs:=l) O O O G9e (G3c hm6)) O (JLl G9e O O O fun hm22=>(Qk (G0 0) O (G7 (hK5 (Gx ?_)))))
 obtain⟨b7,kx7,hb7,hkx7,h⟩:=Jh h
 refine Hz (fun i7 (s7:(List Gb)×(List Stowed))=>each b7 kx7 (List.drop i7 (l.take m6)) i7 s7=some r) (fun i7 s7=>[(3,Ec s),(8,OW 1011 9 Gb.av s7.1),(9,E1 s7.2),(21,Ea (l.take m6)),(22,G0 ((l.take m6).length:Int)),(23,Ej i7)]) (fun i7 s7=>[(1011,.spare 67 9 s7.1.length s7.1.length)]) (fun i7=>(l.take m6).length - i7) 0 ([],[]) h ⟨(by repeat' constructor),⟨⟨_,rfl,.same⟩,G⟩,rfl⟩ ?_
 clear h
 intro i7 s7 hi7 K7 e7
 refine Jr fun hK8=>(JLh (BL (decide ((i7:Int) < ((l.take m6).length:Int)))) (Jm O O O) O (G7 (hK8 (Js fun hK9=>Gm O (fun hb=>?_) (fun hb=>?_)))))
 ·
  have hk7:=Q4 hb
  obtain⟨y7,nx7,hy7,hn7,h⟩:=J3 hi7 hk7
  replace h:=Zv hb7 h
  refine Gs (hK9 ?_)
  obtain⟨kj10,hkj10,h⟩:=Z8 h
  refine Ry (fun j10:(List Gb)×(List Stowed)=>kj10 j10=some r) (fun j10=>[(3,Ec s),(8,OW 1011 9 Gb.av j10.1),(9,E1 j10.2),(21,Ea (l.take m6)),(22,G0 ((l.take m6).length:Int)),(23,Ej i7)]) (fun j10=>[(1011,.spare 67 9 j10.1.length j10.1.length)]) (fun Kj10 ej10=>?_) ?_
  ·
   refine Gx (Jr fun hK11=>(Qk (Ej i7) O (JLh (Eg y7) (Hc (f:=Gy.av) (xs:=(l.take m6)) (y:=y7) O O O G9e hy7 O) O (JLh (.agg (Gy.cs y7)) (Gj tf_agg_58 O O O) O (JLh (.ptr 1012 0) (Jd 1012 4 J37 O O) O (Qk (Ej i7) O (J5 (u:=.junk) (Hp (u:=.agg (Gy.cs y7)) (ds:=[U8 y7.G3,U8 y7.Kilos,BL y7.Small,BL y7.High]) J59 O O O O O O O O) (G7 (hK11 ?_)))))))))
   refine Gt [(3,Ec s),(8,OW 1011 9 Gb.av s7.1),(9,E1 s7.2),(10,Ej i7),(11,Eg y7),(21,Ea (l.take m6)),(22,G0 ((l.take m6).length:Int)),(23,Ej i7)] [(1011,.spare 67 9 s7.1.length s7.1.length)] 1012 rfl rfl rfl ⟨⟨_,rfl,.same⟩,G⟩ rfl (by repeat' (first | exact .ptr | constructor)) (Jr fun hK12=>(Qk (Ej i7) O (JLh (G0 ((i7+1:Nat):Int)) (Hu (Hs hk7 hm22) O O O) O ?_)))
   obtain⟨v13,hv13,h⟩:=Je h
   refine JLh (G0 v13) (J27 hv13 O O O) O (JLh (.dptr [BL y7.High]) (Gc J1a O O O) O (JLh (BL y7.High) (Gi Q7 O O O) O (JLh (.dptr [U8 y7.Kilos,BL y7.Small,BL y7.High]) (Gc J1c O O O) O (JLh (U8 y7.Kilos) (Gi J6 O O O) O ?_))))
   obtain⟨v14,hv14,h⟩:=Je h
   refine JLh (G0 v14) (H08 G4f Gb3 hv14 O O) O ?_
   obtain⟨v15,hv15,h⟩:=Je h
   refine JLh (G0 v15) (J27 hv15 O O O) O ?_
   obtain⟨v16,hv16,h⟩:=Je h
   refine JLh (G0 v16) (Hu hv16 O O O) O (JLh (.agg [G0 v13,ST ByteArray.empty,U8 40,BL y7.High,G0 v16,G0 0,G0 1,U8 0,BL false]) (Ho (cs:=[G0 v13,ST ByteArray.empty,U8 40,BL y7.High,G0 v16,G0 0,G0 1,U8 0,BL false]) [(0,1),(1,1),(2,1),(3,1),(4,1),(5,1),(6,1),(7,1),(8,1)] [G0 0,ST ByteArray.empty,U8 0,BL false,G0 0,G0 0,G0 0,U8 0,BL false] [.int .i64 0,.string ByteArray.empty,.int .u8 0,.bool false,.int .i64 0,.int .i64 0,.int .i64 0,.int .u8 0,.bool false] Ri Yb ⟨.inl O,.inl O,.inl O,.inl O,.inl O,.inl O,.inl O,.inl O,.inl O,G⟩ O O) O (JLh (.ptr 1013 0) (Jd 1013 9 G20 O O) O (J5 (u:=.junk) (Hp (u:=.agg [G0 v13,ST ByteArray.empty,U8 40,BL y7.High,G0 v16,G0 0,G0 1,U8 0,BL false]) (ds:=[G0 v13,ST ByteArray.empty,U8 40,BL y7.High,G0 v16,G0 0,G0 1,U8 0,BL false]) G39 O O O O O O O O) (G7 (hK12 ?_)))))
   obtain⟨kj17,hkj17,h⟩:=Z8 h
   refine Ry (fun j17:Int×Bool=>kj17 j17=some r) (fun j17=>[(3,Ec s),(8,OW 1011 9 Gb.av s7.1),(9,E1 s7.2),(11,Eg y7),(12,.ptr 1013 0),(21,Ea (l.take m6)),(22,G0 ((l.take m6).length:Int)),(23,Ej i7)]) (fun j17=>[(1011,.spare 67 9 s7.1.length s7.1.length),(1013,.box 67 [G0 v13,ST ByteArray.empty,U8 j17.1,BL j17.2,G0 v16,G0 0,G0 1,U8 0,BL false])]) (fun Kj17 ej17=>?_) ?_
   ·
    refine Jr fun hK18=>(JLh (.dptr [BL y7.Small,BL y7.High]) (Gc J1b O O O) O (JLh (BL y7.Small) (Gi Q7 O O O) O (G7 (hK18 (JCc O h (fun h hb=>?_) (fun h hb=>?_))))))
    ·
     refine G4 (JLh (.ptr 1013 2) (Jy Z0 O O) O (J5 (u:=.junk) (Hp (u:=U8 20) (ds:=[G0 v13,ST ByteArray.empty,U8 20,BL y7.High,G0 v16,G0 0,G0 1,U8 0,BL false]) tf_size_5 O O O O O O O O) (JLh (.ptr 1013 3) (Jy H1d O O) O (J5 (u:=.junk) (Hp (u:=BL false) (ds:=[G0 v13,ST ByteArray.empty,U8 20,BL false,G0 v16,G0 0,G0 1,U8 0,BL false]) tf_size_4 O O O O O O O O) (G7 (ej17 _ _ (20,false) h ⟨(by repeat' constructor),⟨⟨_,rfl,.same⟩,⟨_,rfl,.boxL rfl (by repeat' constructor)⟩,G⟩,rfl⟩))))))
    ·
     refine Gs (ej17 _ _ (40,y7.High) h ⟨(by repeat' constructor),⟨⟨_,rfl,.same⟩,⟨_,rfl,.boxL rfl (by repeat' constructor)⟩,G⟩,rfl⟩)
   ·intro j17 h
    replace h:=app1 hkj17 h
    refine Jr fun hK19=>(Qk (OW 1011 9 Gb.av s7.1) O (JLh (.agg [G0 v13,ST ByteArray.empty,U8 j17.1,BL j17.2,G0 v16,G0 0,G0 1,U8 0,BL false]) (Gdf G79 O O O O) O (JLh (E2 [(Gb.mk v13 ByteArray.empty j17.1 j17.2 v16 0 1 0 false)]) (H4 (xs:=[.agg [G0 v13,ST ByteArray.empty,U8 j17.1,BL j17.2,G0 v16,G0 0,G0 1,U8 0,BL false]]) O ⟨O,O,G⟩ G21 G20 O O O O) O ?_)))
    obtain⟨ha20,h⟩:=Jf h
    refine JLh (OW 1011 9 Gb.av (s7.1++[(Gb.mk v13 ByteArray.empty j17.1 j17.2 v16 0 1 0 false)])) (Y2 (f:=Gb.av) (xs:=s7.1) (ys:=[(Gb.mk v13 ByteArray.empty j17.1 j17.2 v16 0 1 0 false)]) O O O O G21 J5a ha20 (fun _=>O) (.inl O) O) O (Qk (OW 1011 9 Gb.av (s7.1++[(Gb.mk v13 ByteArray.empty j17.1 j17.2 v16 0 1 0 false)])) O (G7 (hK19 ?_)))
    refine Gt [(3,Ec s),(8,OW 1011 9 Gb.av (s7.1++[(Gb.mk v13 ByteArray.empty j17.1 j17.2 v16 0 1 0 false)])),(9,E1 s7.2),(11,Eg y7),(12,.dptr [G0 v13,ST ByteArray.empty,U8 j17.1,BL j17.2,G0 v16,G0 0,G0 1,U8 0,BL false]),(21,Ea (l.take m6)),(22,G0 ((l.take m6).length:Int)),(23,Ej i7)] [(1011,.spare 67 9 (s7.1++[(Gb.mk v13 ByteArray.empty j17.1 j17.2 v16 0 1 0 false)]).length (s7.1++[(Gb.mk v13 ByteArray.empty j17.1 j17.2 v16 0 1 0 false)]).length)] 1013 rfl rfl rfl ⟨⟨_,rfl,.same⟩,G⟩ rfl (by repeat' (first | exact .ptr | constructor)) ?_
    refine Jr fun hK21=>(JLh (.agg (Gw.cs s)) (Gj Hd O O O) O (JLh (.dptr [U8 j17.1,BL j17.2,G0 v16,G0 0,G0 1,U8 0,BL false]) (Gc Z0 O O O) O (JLh (U8 j17.1) (Gi J6 O O O) O ?_)))
    obtain⟨r22,hr22,h⟩:=Gf h
    refine JLh (E8 r22) (Gv O (M_slot_All_w s j17.1 r22 hr22) J7b ⟨O,O,O,O,G⟩) O (JLl R7 O O O fun hm51=>(Qk (G0 0) O (G7 (hK21 (Gx ?_)))))
    obtain⟨b49,kx49,hb49,hkx49,h⟩:=Jh h
    refine Hz (fun i49 (s49:(List Stowed))=>each b49 kx49 (List.drop i49 r22) i49 s49=some r) (fun i49 s49=>[(3,Ec s),(8,OW 1011 9 Gb.av (s7.1++[(Gb.mk v13 ByteArray.empty j17.1 j17.2 v16 0 1 0 false)])),(9,E1 s49),(11,Eg y7),(12,.dptr [G0 v13,ST ByteArray.empty,U8 j17.1,BL j17.2,G0 v16,G0 0,G0 1,U8 0,BL false]),(21,Ea (l.take m6)),(22,G0 ((l.take m6).length:Int)),(23,Ej i7),(50,E8 r22),(51,Ej r22.length),(52,Ej i49)]) (fun i49 s49=>[(1011,.spare 67 9 (s7.1++[(Gb.mk v13 ByteArray.empty j17.1 j17.2 v16 0 1 0 false)]).length (s7.1++[(Gb.mk v13 ByteArray.empty j17.1 j17.2 v16 0 1 0 false)]).length)]) (fun i49=>r22.length - i49) 0 s7.2 h ⟨(by repeat' constructor),⟨⟨_,rfl,.same⟩,G⟩,rfl⟩ ?_
    clear h
    intro i49 s49 hi49 K49 e49
    refine Jr fun hK50=>(JLh (BL (decide ((i49:Int) < (r22.length:Int)))) (Jm O O O) O (G7 (hK50 (Js fun hK51=>Gm O (fun hb=>?_) (fun hb=>?_)))))
    ·
     have hk49:=Q4 hb
     obtain⟨y49,nx49,hy49,hn49,h⟩:=J3 hi49 hk49
     replace h:=Zv hb49 h
     refine Gs (hK51 (Js fun hK52=>Gx (Jr fun hK53=>(JLh (Ei y49) (Hc (f:=Slot.av) (xs:=r22) (y:=y49) O O O R7 hy49 O) O (JLh (.agg (Slot.cs y49)) (Gj Jw O O O) O (JLh (.ptr 1014 0) (Jd 1014 3 G4e O O) O (J5 (u:=.junk) (Hp (u:=.agg (Slot.cs y49)) (ds:=[G0 y49.G3,G0 y49.Tier,U8 y49.Half]) H2c O O O O O O O O) (G7 (hK53 ?_)))))))))
     refine Gt [(3,Ec s),(8,OW 1011 9 Gb.av (s7.1++[(Gb.mk v13 ByteArray.empty j17.1 j17.2 v16 0 1 0 false)])),(9,E1 s49),(11,Eg y7),(12,.dptr [G0 v13,ST ByteArray.empty,U8 j17.1,BL j17.2,G0 v16,G0 0,G0 1,U8 0,BL false]),(14,Ei y49),(21,Ea (l.take m6)),(22,G0 ((l.take m6).length:Int)),(23,Ej i7),(50,E8 r22),(51,Ej r22.length),(52,Ej i49)] [(1011,.spare 67 9 (s7.1++[(Gb.mk v13 ByteArray.empty j17.1 j17.2 v16 0 1 0 false)]).length (s7.1++[(Gb.mk v13 ByteArray.empty j17.1 j17.2 v16 0 1 0 false)]).length)] 1014 rfl rfl rfl ⟨⟨_,rfl,.same⟩,G⟩ rfl (by repeat' (first | exact .ptr | constructor)) ?_
     refine Js fun hK54=>?_
     refine Yk (l':=[(3,Ec s),(8,OW 1011 9 Gb.av (s7.1++[(Gb.mk v13 ByteArray.empty j17.1 j17.2 v16 0 1 0 false)])),(9,E1 s49),(11,Eg y7),(12,.dptr [G0 v13,ST ByteArray.empty,U8 j17.1,BL j17.2,G0 v16,G0 0,G0 1,U8 0,BL false]),(14,Ei y49),(21,Ea (l.take m6)),(22,G0 ((l.take m6).length:Int)),(23,Ej i7),(50,E8 r22),(51,Ej r22.length),(52,Ej i49)]) (L':=[(1011,.spare 67 9 (s7.1++[(Gb.mk v13 ByteArray.empty j17.1 j17.2 v16 0 1 0 false)]).length (s7.1++[(Gb.mk v13 ByteArray.empty j17.1 j17.2 v16 0 1 0 false)]).length)]) ⟨(by repeat' constructor),⟨⟨_,rfl,.same⟩,G⟩,rfl⟩ ?_
     obtain⟨ha55,h⟩:=Jf h
     obtain⟨ha56,h⟩:=Jf h
     refine Ju [0,2,8] [0,0,0,0,0,0,0,0,0,3] [0,1,0,2,2,2,2,2,0,3] [[(1011,.spare 67 9 (s7.1++[(Gb.mk v13 ByteArray.empty j17.1 j17.2 v16 0 1 0 false)]).length (s7.1++[(Gb.mk v13 ByteArray.empty j17.1 j17.2 v16 0 1 0 false)]).length)],((1015,.spare 47 4 ([]:List Stowed).length ([]:List Stowed).length)::[(1011,.spare 67 9 (s7.1++[(Gb.mk v13 ByteArray.empty j17.1 j17.2 v16 0 1 0 false)]).length (s7.1++[(Gb.mk v13 ByteArray.empty j17.1 j17.2 v16 0 1 0 false)]).length)]),((1015,.spare 47 4 (([]:List Stowed)++s49).length (([]:List Stowed)++s49).length)::((1015,.spare 47 4 ([]:List Stowed).length ([]:List Stowed).length)::[(1011,.spare 67 9 (s7.1++[(Gb.mk v13 ByteArray.empty j17.1 j17.2 v16 0 1 0 false)]).length (s7.1++[(Gb.mk v13 ByteArray.empty j17.1 j17.2 v16 0 1 0 false)]).length)])),((1015,.spare 47 4 ((([]:List Stowed)++s49)++[(Stowed.mk v13 y49)]).length ((([]:List Stowed)++s49)++[(Stowed.mk v13 y49)]).length)::((1015,.spare 47 4 (([]:List Stowed)++s49).length (([]:List Stowed)++s49).length)::((1015,.spare 47 4 ([]:List Stowed).length ([]:List Stowed).length)::[(1011,.spare 67 9 (s7.1++[(Gb.mk v13 ByteArray.empty j17.1 j17.2 v16 0 1 0 false)]).length (s7.1++[(Gb.mk v13 ByteArray.empty j17.1 j17.2 v16 0 1 0 false)]).length)])))] Qb (by kernel_rfl) rfl rfl ?_
     refine J46 (u:=OW 1015 4 Stowed.av ([]:List Stowed)) O O O O (Gp (H07 1015 47 4 O O H9) O) (Gk (u:=E1 s49) O O ⟨Gp (G6 O O) O,Gp (G6 O O) O,G⟩ (J46 (u:=OW 1015 4 Stowed.av (([]:List Stowed)++s49)) O O O O (Gp (G41 (f:=Stowed.av) (xs:=([]:List Stowed)) (ys:=s49) O O O O H9 Gcb ha55 (fun _=>O) (.inl O)) O) (Gk (u:=.dptr [G0 v13,ST ByteArray.empty,U8 j17.1,BL j17.2,G0 v16,G0 0,G0 1,U8 0,BL false]) O O ⟨Gp (Gc G45 O O O) O,Gp (Gc G45 O O O) O,Gp (Gc G45 O O O) O,G⟩ (Gk (u:=G0 v13) O O ⟨Gp (Gi Ge O O O) O,Gp (Gi Ge O O O) O,Gp (Gi Ge O O O) O,G⟩ (Gk (u:=.agg (Slot.cs y49)) O O ⟨Gp (Gj Jw O O O) O,Gp (Gj Jw O O O) O,Gp (Gj Jw O O O) O,G⟩ (Gk (u:=.agg [G0 v13,G0 y49.G3,G0 y49.Tier,U8 y49.Half]) O O ⟨Gp (Ho (cs:=[G0 v13,G0 y49.G3,G0 y49.Tier,U8 y49.Half]) [(0,1),(1,3)] [G0 0,G0 0,G0 0,U8 0] [.int .i64 0,.int .i64 0,.int .i64 0,.int .u8 0] G6a G7c ⟨.inl O,.inl O,.inl O,.inl O,G⟩ O O) O,Gp (Ho (cs:=[G0 v13,G0 y49.G3,G0 y49.Tier,U8 y49.Half]) [(0,1),(1,3)] [G0 0,G0 0,G0 0,U8 0] [.int .i64 0,.int .i64 0,.int .i64 0,.int .u8 0] G6a G7c ⟨.inl O,.inl O,.inl O,.inl O,G⟩ O O) O,Gp (Ho (cs:=[G0 v13,G0 y49.G3,G0 y49.Tier,U8 y49.Half]) [(0,1),(1,3)] [G0 0,G0 0,G0 0,U8 0] [.int .i64 0,.int .i64 0,.int .i64 0,.int .u8 0] G6a G7c ⟨.inl O,.inl O,.inl O,.inl O,G⟩ O O) O,G⟩ (Gk (u:=E1 [(Stowed.mk v13 y49)]) O O ⟨Gp (H4 (xs:=[.agg [G0 v13,G0 y49.G3,G0 y49.Tier,U8 y49.Half]]) O ⟨O,O,G⟩ H9 R5 O O O O) O,Gp (H4 (xs:=[.agg [G0 v13,G0 y49.G3,G0 y49.Tier,U8 y49.Half]]) O ⟨O,O,G⟩ H9 R5 O O O O) O,Gp (H4 (xs:=[.agg [G0 v13,G0 y49.G3,G0 y49.Tier,U8 y49.Half]]) O ⟨O,O,G⟩ H9 R5 O O O O) O,G⟩ (J46 (u:=OW 1015 4 Stowed.av ((([]:List Stowed)++s49)++[(Stowed.mk v13 y49)])) O O O O (Gp (Y2 (f:=Stowed.av) (xs:=(([]:List Stowed)++s49)) (ys:=[(Stowed.mk v13 y49)]) O O O O H9 Gcb ha56 (fun _=>O) (.inl O) O) O) (Gk (u:=OW 1015 4 Stowed.av ((([]:List Stowed)++s49)++[(Stowed.mk v13 y49)])) O O ⟨Gp (G8 O O) O,G⟩ (Yi ?_))))))))))
     refine hK54 (Js fun hK57=>?_)
     refine Yk (l':=[(3,Ec s),(8,OW 1011 9 Gb.av (s7.1++[(Gb.mk v13 ByteArray.empty j17.1 j17.2 v16 0 1 0 false)])),(9,E1 s49),(11,Eg y7),(12,.dptr [G0 v13,ST ByteArray.empty,U8 j17.1,BL j17.2,G0 v16,G0 0,G0 1,U8 0,BL false]),(14,Ei y49),(15,OW 1015 4 Stowed.av ((([]:List Stowed)++s49)++[(Stowed.mk v13 y49)])),(21,Ea (l.take m6)),(22,G0 ((l.take m6).length:Int)),(23,Ej i7),(50,E8 r22),(51,Ej r22.length),(52,Ej i49)]) (L':=[(1011,.spare 67 9 (s7.1++[(Gb.mk v13 ByteArray.empty j17.1 j17.2 v16 0 1 0 false)]).length (s7.1++[(Gb.mk v13 ByteArray.empty j17.1 j17.2 v16 0 1 0 false)]).length),(1015,.spare 47 4 ((([]:List Stowed)++s49)++[(Stowed.mk v13 y49)]).length ((([]:List Stowed)++s49)++[(Stowed.mk v13 y49)]).length)]) ⟨(by repeat' constructor),⟨⟨_,rfl,.same⟩,⟨_,rfl,.same⟩,G⟩,rfl⟩ ?_
     obtain⟨v58,hv58,h⟩:=Je h
     obtain⟨v59,hv59,h⟩:=Gf h
     obtain⟨r60,hr60,h⟩:=Gf h
     refine JC_d0 Qb (by kernel_rfl) (Dq (Ei y49) (Gc Jc O O O) O (Dq (G0 y49.G3) (Gi Ge O O O) O (Dq (Eg y7) (Gc J1d O O O) O (Dq (U8 y7.G3) (Gi J6 O O O) O (Dq (G0 v58) (H08 G4f Gb3 hv58 O O) O (Dq (Ec s) (Gc Hk O O O) O (Dq (E7 s.Columns) (Gi J2 O O O) O (Dq (Ej s.Columns.length) (Zp (f:=G3.av) (xs:=s.Columns) Hq O O) O (Dq (G0 v59) (J26 (Y0 hv59).1 (Y0 hv59).2 O O O) O (Dq (BL (decide (y49.G3=v59))) (Jz O O O) O (Dq (BL (decide (y49.G3=v59))) (G6 O O) O (Do (.agg (Gw.cs s)) [] O .sct G (fun hc=>Gj Hd O O O) O (Do (OW 1011 9 Gb.av (s7.1++[(Gb.mk v13 ByteArray.empty j17.1 j17.2 v16 0 1 0 false)])) [] O .sct G (fun hc=>G6 O O) O ?_)))))))))))))
     refine Do (OW 1015 4 Stowed.av ((([]:List Stowed)++s49)++[(Stowed.mk v13 y49)])) [] O .sct G (fun hc=>G6 O O) O (Do (BL r60) [76,77,78] O .sct ⟨Ua,Ua,Ua,G⟩ (fun hc=>Gv (args:=[.agg (Gw.cs s),E2 (s7.1++[(Gb.mk v13 ByteArray.empty j17.1 j17.2 v16 0 1 0 false)]),E1 ((([]:List Stowed)++s49)++[(Stowed.mk v13 y49)])]) O (G90 s (s7.1++[(Gb.mk v13 ByteArray.empty j17.1 j17.2 v16 0 1 0 false)]) ((([]:List Stowed)++s49)++[(Stowed.mk v13 y49)]) r60 (H6 hc hr60)) H31 ⟨O,O,O,O,O,O,G⟩) O (Dq (BL ((decide (y49.G3=v59))&&r60)) (Qi O O O O) O (Dnil ?_)))
     refine hK57 (JCc O h (fun h hb=>?_) (fun h hb=>?_))
     ·
      refine Jr fun hK61=>(Qk (OW 1015 4 Stowed.av ((([]:List Stowed)++s49)++[(Stowed.mk v13 y49)])) O (Qk (OW 1015 4 Stowed.av ((([]:List Stowed)++s49)++[(Stowed.mk v13 y49)])) O (G7 (hK61 (J9 (ej10 _ _ ((s7.1++[(Gb.mk v13 ByteArray.empty j17.1 j17.2 v16 0 1 0 false)]),((([]:List Stowed)++s49)++[(Stowed.mk v13 y49)])) h ⟨⟨.same O,.same O,.list O,.same O,.same O,.same O,G⟩,⟨⟨_,O,.same⟩,G⟩,O⟩))))))
     ·
      refine Gs (hK52 (G4 (JLh (G0 ((i49+1:Nat):Int)) (Hu (Hs hk49 hm51) O O O) O (Qk (G0 ((i49+1:Nat):Int)) O (G7 (e49 _ _ (i49+1) s49 (app1 hn49 h) (by omega) ⟨(by repeat' constructor),⟨⟨_,rfl,.same⟩,G⟩,rfl⟩))))))
    ·
     have h:=app1 hkx49 (J4 hi49 (Hh hb))
     refine J9 (ej10 _ _ ((s7.1++[(Gb.mk v13 ByteArray.empty j17.1 j17.2 v16 0 1 0 false)]),s49) h ⟨(by repeat' constructor),⟨⟨_,rfl,.same⟩,G⟩,rfl⟩)
  ·intro j10 h
   replace h:=app1 hkj10 h
   refine G4 (JLh (G0 ((i7+1:Nat):Int)) (Hu (Hs hk7 hm22) O O O) O (Qk (G0 ((i7+1:Nat):Int)) O (G7 (e7 _ _ (i7+1) (j10.1,j10.2) (app1 hn7 h) (by omega) ⟨(by repeat' constructor),⟨⟨_,rfl,.same⟩,G⟩,rfl⟩))))
 ·
  have h:=app1 hkx7 (J4 hi7 (Hh hb))
  refine J9 (hK4 (Jr fun hK62=>(Qk (OW 1011 9 Gb.av s7.1) O (Qk (E1 s7.2) O (Qk (OW 1011 9 Gb.av s7.1) O (Qk (E1 s7.2) O (G7 (hK62 (Gu (⟨[E2 s7.1,E1 s7.2],[],G,O,⟨⟨_,O,.conv (.list O)⟩,⟨_,O,.conv (.same O)⟩,G⟩,O,congrArg (fun r:(List Gb)×(List Stowed)=>(.tup [E2 r.1,E1 r.2]:AV)) (Option.some.inj h)⟩))))))))))

def Yd :Option Gw:=
 some (Gw.mk ([(G3.mk 0 0 false 2 0 0 0 0 [] 0 0 0),(G3.mk 0 1 false 2 0 0 0 0 [] 0 0 0),(G3.mk 0 0 true 3 0 0 0 0 [] 0 0 0),(G3.mk 0 1 true 3 0 0 0 0 [] 0 0 0),(G3.mk 1 1 true 4 0 0 0 0 [] 0 0 0)]) ([(G9.mk 0 [0,1])]) (Light.mk 0 0 0 0) [] [] [] (G2.mk 0 0 0 0))
theorem G8f  (r:Gw) (h:Yd =some r):Pure Ek 24 [] (·=.agg (Gw.cs r)):=by
 unfold Yd at h
 refine H1 [.cell 0 36] Tryz.func24 O O (Jr fun hK1=>(JLh (.ptr 1047 0) (G98 1047 [E7 ([]:List G3),E6 ([]:List G9),G0 0,G0 0,G0 0,G0 0,E3 ([]:List Row),E4 ([]:List Frame),E5 ([]:List Gg),G0 0,G0 0,G0 0,G0 0] [.slice none 0 0,.slice none 0 0,.int .i64 0,.int .i64 0,.int .i64 0,.int .i64 0,.slice none 0 0,.slice none 0 0,.slice none 0 0,.int .i64 0,.int .i64 0,.int .i64 0,.int .i64 0] G7d ⟨.inr ⟨_,O,O⟩,.inr ⟨_,O,O⟩,.inl O,.inl O,.inl O,.inl O,.inr ⟨_,O,O⟩,.inr ⟨_,O,O⟩,.inr ⟨_,O,O⟩,.inl O,.inl O,.inl O,.inl O,G⟩ O O) O (G7 (hK1 ?_))))
 refine Jr fun hK2=>(JLh (.agg [G0 0,G0 0,BL false,G0 2,G0 0,G0 0,G0 0,G0 0,E0 ([]:List Int),G0 0,G0 0,G0 0]) (Ho (cs:=[G0 0,G0 0,BL false,G0 2,G0 0,G0 0,G0 0,G0 0,E0 ([]:List Int),G0 0,G0 0,G0 0]) [(0,1),(1,1),(2,1),(3,1),(4,1),(5,1),(6,1),(7,1),(8,1),(9,1),(10,1),(11,1)] [G0 0,G0 0,BL false,G0 0,G0 0,G0 0,G0 0,G0 0,E0 ([]:List Int),G0 0,G0 0,G0 0] [.int .i64 0,.int .i64 0,.bool false,.int .i64 0,.int .i64 0,.int .i64 0,.int .i64 0,.int .i64 0,.slice none 0 0,.int .i64 0,.int .i64 0,.int .i64 0] Yt G1a ⟨.inl O,.inl O,.inl O,.inl O,.inl O,.inl O,.inl O,.inl O,.inr ⟨_,O,O⟩,.inl O,.inl O,.inl O,G⟩ O O) O (JLh (.agg [G0 0,G0 1,BL false,G0 2,G0 0,G0 0,G0 0,G0 0,E0 ([]:List Int),G0 0,G0 0,G0 0]) (Ho (cs:=[G0 0,G0 1,BL false,G0 2,G0 0,G0 0,G0 0,G0 0,E0 ([]:List Int),G0 0,G0 0,G0 0]) [(0,1),(1,1),(2,1),(3,1),(4,1),(5,1),(6,1),(7,1),(8,1),(9,1),(10,1),(11,1)] [G0 0,G0 0,BL false,G0 0,G0 0,G0 0,G0 0,G0 0,E0 ([]:List Int),G0 0,G0 0,G0 0] [.int .i64 0,.int .i64 0,.bool false,.int .i64 0,.int .i64 0,.int .i64 0,.int .i64 0,.int .i64 0,.slice none 0 0,.int .i64 0,.int .i64 0,.int .i64 0] Yt G1a ⟨.inl O,.inl O,.inl O,.inl O,.inl O,.inl O,.inl O,.inl O,.inr ⟨_,O,O⟩,.inl O,.inl O,.inl O,G⟩ O O) O (JLh (.agg [G0 0,G0 0,BL true,G0 3,G0 0,G0 0,G0 0,G0 0,E0 ([]:List Int),G0 0,G0 0,G0 0]) (Ho (cs:=[G0 0,G0 0,BL true,G0 3,G0 0,G0 0,G0 0,G0 0,E0 ([]:List Int),G0 0,G0 0,G0 0]) [(0,1),(1,1),(2,1),(3,1),(4,1),(5,1),(6,1),(7,1),(8,1),(9,1),(10,1),(11,1)] [G0 0,G0 0,BL false,G0 0,G0 0,G0 0,G0 0,G0 0,E0 ([]:List Int),G0 0,G0 0,G0 0] [.int .i64 0,.int .i64 0,.bool false,.int .i64 0,.int .i64 0,.int .i64 0,.int .i64 0,.int .i64 0,.slice none 0 0,.int .i64 0,.int .i64 0,.int .i64 0] Yt G1a ⟨.inl O,.inl O,.inl O,.inl O,.inl O,.inl O,.inl O,.inl O,.inr ⟨_,O,O⟩,.inl O,.inl O,.inl O,G⟩ O O) O (JLh (.agg [G0 0,G0 1,BL true,G0 3,G0 0,G0 0,G0 0,G0 0,E0 ([]:List Int),G0 0,G0 0,G0 0]) (Ho (cs:=[G0 0,G0 1,BL true,G0 3,G0 0,G0 0,G0 0,G0 0,E0 ([]:List Int),G0 0,G0 0,G0 0]) [(0,1),(1,1),(2,1),(3,1),(4,1),(5,1),(6,1),(7,1),(8,1),(9,1),(10,1),(11,1)] [G0 0,G0 0,BL false,G0 0,G0 0,G0 0,G0 0,G0 0,E0 ([]:List Int),G0 0,G0 0,G0 0] [.int .i64 0,.int .i64 0,.bool false,.int .i64 0,.int .i64 0,.int .i64 0,.int .i64 0,.int .i64 0,.slice none 0 0,.int .i64 0,.int .i64 0,.int .i64 0] Yt G1a ⟨.inl O,.inl O,.inl O,.inl O,.inl O,.inl O,.inl O,.inl O,.inr ⟨_,O,O⟩,.inl O,.inl O,.inl O,G⟩ O O) O (JLh (.agg [G0 1,G0 1,BL true,G0 4,G0 0,G0 0,G0 0,G0 0,E0 ([]:List Int),G0 0,G0 0,G0 0]) (Ho (cs:=[G0 1,G0 1,BL true,G0 4,G0 0,G0 0,G0 0,G0 0,E0 ([]:List Int),G0 0,G0 0,G0 0]) [(0,1),(1,1),(2,1),(3,1),(4,1),(5,1),(6,1),(7,1),(8,1),(9,1),(10,1),(11,1)] [G0 0,G0 0,BL false,G0 0,G0 0,G0 0,G0 0,G0 0,E0 ([]:List Int),G0 0,G0 0,G0 0] [.int .i64 0,.int .i64 0,.bool false,.int .i64 0,.int .i64 0,.int .i64 0,.int .i64 0,.int .i64 0,.slice none 0 0,.int .i64 0,.int .i64 0,.int .i64 0] Yt G1a ⟨.inl O,.inl O,.inl O,.inl O,.inl O,.inl O,.inl O,.inl O,.inr ⟨_,O,O⟩,.inl O,.inl O,.inl O,G⟩ O O) O (JLh (E7 ([(G3.mk 0 0 false 2 0 0 0 0 [] 0 0 0),(G3.mk 0 1 false 2 0 0 0 0 [] 0 0 0),(G3.mk 0 0 true 3 0 0 0 0 [] 0 0 0),(G3.mk 0 1 true 3 0 0 0 0 [] 0 0 0),(G3.mk 1 1 true 4 0 0 0 0 [] 0 0 0)])) (H4 (xs:=[.agg [G0 0,G0 0,BL false,G0 2,G0 0,G0 0,G0 0,G0 0,E0 ([]:List Int),G0 0,G0 0,G0 0],.agg [G0 0,G0 1,BL false,G0 2,G0 0,G0 0,G0 0,G0 0,E0 ([]:List Int),G0 0,G0 0,G0 0],.agg [G0 0,G0 0,BL true,G0 3,G0 0,G0 0,G0 0,G0 0,E0 ([]:List Int),G0 0,G0 0,G0 0],.agg [G0 0,G0 1,BL true,G0 3,G0 0,G0 0,G0 0,G0 0,E0 ([]:List Int),G0 0,G0 0,G0 0],.agg [G0 1,G0 1,BL true,G0 4,G0 0,G0 0,G0 0,G0 0,E0 ([]:List Int),G0 0,G0 0,G0 0]]) O ⟨O,O,O,O,O,O,O,O,O,O,G⟩ Hq Zc O O O O) O (JLh (E0 [0,1]) (H4 (xs:=[G0 0,G0 1]) O ⟨O,O,O,O,G⟩ Gh Jj O O O O) O (JLh (.agg [G0 0,E0 [0,1]]) (Ho (cs:=[G0 0,E0 [0,1]]) [(0,1),(1,1)] [G0 0,E0 ([]:List Int)] [.int .i64 0,.slice none 0 0] Gc9 H2a ⟨.inl O,.inr ⟨_,O,O⟩,G⟩ O O) O (JLh (E6 ([(G9.mk 0 [0,1])])) (H4 (xs:=[.agg [G0 0,E0 [0,1]]]) O ⟨O,O,G⟩ Q6 G4d O O O O) O (JLh (.agg [E7 ([(G3.mk 0 0 false 2 0 0 0 0 [] 0 0 0),(G3.mk 0 1 false 2 0 0 0 0 [] 0 0 0),(G3.mk 0 0 true 3 0 0 0 0 [] 0 0 0),(G3.mk 0 1 true 3 0 0 0 0 [] 0 0 0),(G3.mk 1 1 true 4 0 0 0 0 [] 0 0 0)]),E6 ([(G9.mk 0 [0,1])]),G0 0,G0 0,G0 0,G0 0,E3 ([]:List Row),E4 ([]:List Frame),E5 ([]:List Gg),G0 0,G0 0,G0 0,G0 0]) (Ho (cs:=[E7 ([(G3.mk 0 0 false 2 0 0 0 0 [] 0 0 0),(G3.mk 0 1 false 2 0 0 0 0 [] 0 0 0),(G3.mk 0 0 true 3 0 0 0 0 [] 0 0 0),(G3.mk 0 1 true 3 0 0 0 0 [] 0 0 0),(G3.mk 1 1 true 4 0 0 0 0 [] 0 0 0)]),E6 ([(G9.mk 0 [0,1])]),G0 0,G0 0,G0 0,G0 0,E3 ([]:List Row),E4 ([]:List Frame),E5 ([]:List Gg),G0 0,G0 0,G0 0,G0 0]) [(0,1),(1,1),(2,4),(6,1),(7,1),(8,1),(9,4)] [E7 ([]:List G3),E6 ([]:List G9),G0 0,G0 0,G0 0,G0 0,E3 ([]:List Row),E4 ([]:List Frame),E5 ([]:List Gg),G0 0,G0 0,G0 0,G0 0] [.slice none 0 0,.slice none 0 0,.int .i64 0,.int .i64 0,.int .i64 0,.int .i64 0,.slice none 0 0,.slice none 0 0,.slice none 0 0,.int .i64 0,.int .i64 0,.int .i64 0,.int .i64 0] J2d G7d ⟨.inr ⟨_,O,O⟩,.inr ⟨_,O,O⟩,.inl O,.inl O,.inl O,.inl O,.inr ⟨_,O,O⟩,.inr ⟨_,O,O⟩,.inr ⟨_,O,O⟩,.inl O,.inl O,.inl O,.inl O,G⟩ O O) O (J5 (u:=.junk) (Hp (u:=.agg [E7 ([(G3.mk 0 0 false 2 0 0 0 0 [] 0 0 0),(G3.mk 0 1 false 2 0 0 0 0 [] 0 0 0),(G3.mk 0 0 true 3 0 0 0 0 [] 0 0 0),(G3.mk 0 1 true 3 0 0 0 0 [] 0 0 0),(G3.mk 1 1 true 4 0 0 0 0 [] 0 0 0)]),E6 ([(G9.mk 0 [0,1])]),G0 0,G0 0,G0 0,G0 0,E3 ([]:List Row),E4 ([]:List Frame),E5 ([]:List Gg),G0 0,G0 0,G0 0,G0 0]) (ds:=[E7 ([(G3.mk 0 0 false 2 0 0 0 0 [] 0 0 0),(G3.mk 0 1 false 2 0 0 0 0 [] 0 0 0),(G3.mk 0 0 true 3 0 0 0 0 [] 0 0 0),(G3.mk 0 1 true 3 0 0 0 0 [] 0 0 0),(G3.mk 1 1 true 4 0 0 0 0 [] 0 0 0)]),E6 ([(G9.mk 0 [0,1])]),G0 0,G0 0,G0 0,G0 0,E3 ([]:List Row),E4 ([]:List Frame),E5 ([]:List Gg),G0 0,G0 0,G0 0,G0 0]) G3a O O O O O O O O) (G7 (hK2 ?_)))))))))))))
 refine Gu (⟨[.agg [E7 ([(G3.mk 0 0 false 2 0 0 0 0 [] 0 0 0),(G3.mk 0 1 false 2 0 0 0 0 [] 0 0 0),(G3.mk 0 0 true 3 0 0 0 0 [] 0 0 0),(G3.mk 0 1 true 3 0 0 0 0 [] 0 0 0),(G3.mk 1 1 true 4 0 0 0 0 [] 0 0 0)]),E6 ([(G9.mk 0 [0,1])]),G0 0,G0 0,G0 0,G0 0,E3 ([]:List Row),E4 ([]:List Frame),E5 ([]:List Gg),G0 0,G0 0,G0 0,G0 0]],[],G,O,⟨⟨_,⟨_,_,_,_,O,O,O,.inl ⟨Hd,O⟩⟩,.conv (.same O)⟩,G⟩,O,congrArg (fun r:Gw=>(.agg (Gw.cs r):AV)) (Option.some.inj h)⟩)

def Ji (box:Int) (column:Int) (tier:Int) (half:Int):Option Stowed:=
 some (Stowed.mk box (Slot.mk column tier half))
theorem Jp (box:Int) (column:Int) (tier:Int) (half:Int) (r:Stowed) (h:Ji box column tier half=some r):Pure Ek 21 [G0 box,G0 column,G0 tier,U8 half] (·=.agg (Stowed.cs r)):=by
 unfold Ji at h
 refine H1 [.cell 8 47] Tryz.func21 O O (Jr fun hK1=>(JLh (.ptr 1036 0) (G98 1036 [G0 0,G0 0,G0 0,U8 0] [.int .i64 0,.int .i64 0,.int .i64 0,.int .u8 0] G7c ⟨.inl O,.inl O,.inl O,.inl O,G⟩ O O) O (G7 (hK1 ?_))))
 refine Jr fun hK2=>(Qk (G0 box) O (Qk (G0 column) O (Qk (G0 tier) O (Qk (U8 half) O (JLh (.agg [G0 column,G0 tier,U8 half]) (Ho (cs:=[G0 column,G0 tier,U8 half]) [(0,1),(1,1),(2,1)] [G0 0,G0 0,U8 0] [.int .i64 0,.int .i64 0,.int .u8 0] Gca H2b ⟨.inl O,.inl O,.inl O,G⟩ O O) O (JLh (.agg [G0 box,G0 column,G0 tier,U8 half]) (Ho (cs:=[G0 box,G0 column,G0 tier,U8 half]) [(0,1),(1,3)] [G0 0,G0 0,G0 0,U8 0] [.int .i64 0,.int .i64 0,.int .i64 0,.int .u8 0] G6a G7c ⟨.inl O,.inl O,.inl O,.inl O,G⟩ O O) O (J5 (u:=.junk) (Hp (u:=.agg [G0 box,G0 column,G0 tier,U8 half]) (ds:=[G0 box,G0 column,G0 tier,U8 half]) Zd O O O O O O O O) (G7 (hK2 (Gu ?_))))))))))
 exact⟨[.agg [G0 box,G0 column,G0 tier,U8 half]],[],G,O,⟨⟨_,⟨_,_,_,_,O,O,O,.inl ⟨Ym,O⟩⟩,.conv (.same O)⟩,G⟩,O,congrArg (fun r:Stowed=>(.agg (Stowed.cs r):AV)) (Option.some.inj h)⟩

def G17 (x:Int):Option Bool:=
 some (decide (x≠x))
theorem Ga4 (x:Int) (r:Bool) (h:G17 x=some r):Pure Ek 94 [G0 x] (·=BL r):=by
 unfold G17 at h
 refine H1 [.tmp 2] Tryz.func94 O O (Jr fun hK1=>(Qk (BL false) O (G7 (hK1 (Jr fun hK2=>(Qk (G0 x) O (Qk (G0 x) O (JLh (BL (decide (x≠x))) (H6a O O O) O (Qk (BL (decide (x≠x))) O (G7 (hK2 (Gu (fin1 BL h)))))))))))))

def G93 (x:Int) (y:Int):Option Bool:=
 bnd (G17 x) fun r3=>
 bnd (bif r3 then G17 y else some default) fun r4=>
 some ((r3&&(!r4))||(decide (x < y)))
theorem H85 (x:Int) (y:Int) (r:Bool) (h:G93 x y=some r):Pure Ek 59 [G0 x,G0 y] (·=BL r):=by
 unfold G93 at h
 refine H1 [.tmp 4] Tryz.func59 O O (Jr fun hK1=>(Qk (BL false) O (G7 (hK1 (Jr fun hK2=>(Qk (G0 x) O ?_))))))
 obtain⟨r3,hr3,h⟩:=Gf h
 refine JLh (BL r3) (Gv O (Ga4 x r3 hr3) Hcb ⟨O,O,G⟩) O (Qk (BL r3) O (JLo (G0 y) [] O .sct G (fun hc=>G6 O O) O ?_))
 obtain⟨r4,hr4,h⟩:=Gf h
 refine JLo (BL r4) [8] O .sct ⟨Ua,G⟩ (fun hc=>Gv (args:=[G0 y]) O (Ga4 y r4 (H6 hc hr4)) Hcb ⟨O,O,G⟩) O (JLo (BL (!r4)) [9] O .sct ⟨Ua,G⟩ (fun hc=>Zn (b:=r4) O O) O (JLh (BL (r3&&(!r4))) (Qi O O O O) O (Qk (BL (r3&&(!r4))) O (JLo (G0 x) [] O .scf G (fun hc=>G6 O O) O (JLo (G0 y) [] O .scf G (fun hc=>G6 O O) O (JLo (BL (decide (x < y))) [13,14] O .scf ⟨Ua,Ua,G⟩ (fun hc=>Jm O O O) O (JLh (BL ((r3&&(!r4))||(decide (x < y)))) (G5c O O O O) O (Qk (BL ((r3&&(!r4))||(decide (x < y)))) O (G7 (hK2 (Gu (fin1 BL h))))))))))))

def Yv (x:Int):Option Bool:=
 some (decide (x≠x))
theorem G57 (x:Int) (r:Bool) (h:Yv x=some r):Pure Ek 60 [G0 x] (·=BL r):=by
 unfold Yv at h
 refine H1 [.tmp 2] Tryz.func60 O O (Jr fun hK1=>(Qk (BL false) O (G7 (hK1 (Jr fun hK2=>(Qk (G0 x) O (Qk (G0 x) O (JLh (BL (decide (x≠x))) (H6a O O O) O (Qk (BL (decide (x≠x))) O (G7 (hK2 (Gu (fin1 BL h)))))))))))))

def Rz (F:Nat) (x:List Int) (target:Int):Option (Int×Bool):=
 loop (fun nx16 (s16:Int×Int)=>
  bif decide (s16.1 < s16.2) then
  (Zf (s16.1+s16.2) fun v20=>
   Zf (Gcf .u64 (IntKind.u64.wrap v20) 1) fun v21=>
   Yj x v21 fun y23=>
   bnd (G93 y23 target) fun r25=>
   bif r25 then
   (Zf (v21+1) fun v26=>
    nx16 (v26,s16.2))
   else
   (nx16 (s16.1,v21)))
  else
  (bnd (bif decide (s16.1 < (x.length:Int)) then Yj x s16.1 some else some default) fun y28=>
   bnd (bif ((decide (s16.1 < (x.length:Int)))&&!(decide (y28=target))) then Yj x s16.1 some else some default) fun y29=>
   bnd (bif ((decide (s16.1 < (x.length:Int)))&&!(decide (y28=target))) then Yv y29 else some default) fun r30=>
   bnd (bif (((decide (s16.1 < (x.length:Int)))&&!(decide (y28=target)))&&r30) then Yv target else some default) fun r31=>
   some (s16.1,((decide (s16.1 < (x.length:Int)))&&((decide (y28=target))||(r30&&r31)))))) F (0,(x.length:Int))
theorem G75 (F:Nat) (x:List Int) (target:Int) (r:Int×Bool) (h:Rz F x target=some r):Pure Ek 32 [E0 x,G0 target] (·=.tup [G0 r.1,BL r.2]):=by
 unfold Rz at h
 refine H1 [.tmp 4,.tmp 5] Tryz.func32 O O (Jr fun hK1=>(Qk (G0 0) O (Qk (BL false) O (G7 (hK1 (Jr fun hK2=>(Qk (E0 x) O (JLl Gh O O O fun hm11=>(Qk (Ej x.length) O (G7 (hK2 (Jr fun hK3=>(Qk (Ej x.length) O (Qk (G0 0) O (Qk (Ej x.length) O (G7 (hK3 (Js fun hK4=>Gx ?_))))))))))))))))))
 obtain⟨b16,hb16,h⟩:=loop_in h
 refine Hz (fun i16 (s16:Int×Int)=>loop b16 i16 s16=some r) (fun i16 s16=>[(0,E0 x),(1,G0 target),(6,Ej x.length),(7,G0 s16.1),(8,G0 s16.2)]) (fun i16 s16=>[]) (fun i16=>i16) F (0,(x.length:Int)) h ⟨(by repeat' constructor),G,rfl⟩ ?_
 clear h
 intro i16 s16 hi16 K16 e16
 obtain⟨m16,nx16,hm_16,hn16,h⟩:=loop_out hi16
 replace h:=app2 hb16 h
 refine Js fun hK17=>Jr fun hK18=>(Qk (G0 s16.1) O (Qk (G0 s16.2) O (JLh (BL (decide (s16.1 < s16.2))) (Jm O O O) O (G7 (hK18 (JCc O h (fun h hb=>?_) (fun h hb=>?_)))))))
 ·
  refine Gs (hK17 (Gx (Jr fun hK19=>(Qk (G0 s16.1) O (Qk (G0 s16.2) O ?_)))))
  obtain⟨v20,hv20,h⟩:=Je h
  refine JLh (G0 v20) (Hu hv20 O O O) O (JLh (.sc (.int .u64 (IntKind.u64.wrap v20))) (H08 Hc1 G4f O O O) O (JLh (.sc (.int .u64 (Gcf .u64 (IntKind.u64.wrap v20) 1))) (J11 (s:=1) O O O O) O ?_))
  obtain⟨v21,hv21,h⟩:=Je h
  refine JLh (G0 v21) (H08 G4f Hc1 hv21 O O) O (Qk (G0 v21) O (G7 (hK19 (Jr fun hK22=>(Qk (E0 x) O (Qk (G0 v21) O ?_))))))
  obtain⟨m24,y23,hm24,hy23,h⟩:=Y6 h
  refine JLh (.dptr [G0 y23]) (Hc (f:=G0) (xs:=x) (y:=y23) O O O Gh hy23 hm24) O (JLh (G0 y23) (Gi Ge O O O) O (Qk (G0 target) O ?_))
  obtain⟨r25,hr25,h⟩:=Gf h
  refine JLh (BL r25) (Gv O (H85 y23 target r25 hr25) J6b ⟨O,O,O,O,G⟩) O (G7 (hK22 (JCc O h (fun h hb=>?_) (fun h hb=>?_))))
  ·
   refine G4 (Qk (G0 v21) O ?_)
   obtain⟨v26,hv26,h⟩:=Je h
   refine JLh (G0 v26) (Hu hv26 O O O) O (Qk (G0 v26) O (G7 (e16 _ _ m16 (v26,s16.2) (app1 hn16 h) (by omega) ⟨(by repeat' constructor),G,rfl⟩)))
  ·
   refine G4 (Qk (G0 v21) O (Qk (G0 v21) O (G7 (e16 _ _ m16 (s16.1,v21) (app1 hn16 h) (by omega) ⟨(by repeat' constructor),G,rfl⟩))))
 ·
  refine J9 (hK4 (Jr fun hK27=>(Qk (G0 s16.1) O (Qk (G0 s16.1) O (Qk (Ej x.length) O (JLh (BL (decide (s16.1 < (x.length:Int)))) (Jm O O O) O (Qk (BL (decide (s16.1 < (x.length:Int)))) O (JLo (E0 x) [] O .sct G (fun hc=>G6 O O) O (JLo (G0 s16.1) [] O .sct G (fun hc=>G6 O O) O ?_)))))))))
  obtain⟨y28,hy28,h⟩:=Gf h
  refine JLo (.dptr [G0 y28]) [36,37] O .sct ⟨Ua,Ua,G⟩ (fun hc=>(match Rt (H6 hc hy28) with | ⟨_,hm_,hy_⟩=>Hc (f:=G0) (xs:=x) (y:=y28) O O O Gh hy_ hm_)) O (JLo (G0 y28) [38] O .sct ⟨Ua,G⟩ (fun hc=>Gi Ge O O O) O (JLo (G0 target) [] O .sct G (fun hc=>G6 O O) O (JLo (BL (decide (y28=target))) [39,40] O .sct ⟨Ua,Ua,G⟩ (fun hc=>Jz O O O) O (JLo (BL (decide (y28=target))) [41] O .sct ⟨Ua,G⟩ (fun hc=>G6 O O) O (JLo (E0 x) [] O .optf G (fun hc=>G6 O O) O (JLo (G0 s16.1) [] O .optf G (fun hc=>G6 O O) O ?_))))))
  obtain⟨y29,hy29,h⟩:=Gf h
  refine JLo (.dptr [G0 y29]) [43,44] O .optf ⟨Ua,Ua,G⟩ (fun hc=>(match Rt (H6 hc hy29) with | ⟨_,hm_,hy_⟩=>Hc (f:=G0) (xs:=x) (y:=y29) O O O Gh hy_ hm_)) O (JLo (G0 y29) [45] O .optf ⟨Ua,G⟩ (fun hc=>Gi Ge O O O) O ?_)
  obtain⟨r30,hr30,h⟩:=Gf h
  refine JLo (BL r30) [46] O .optf ⟨Ua,G⟩ (fun hc=>Gv (args:=[G0 y29]) O (G57 y29 r30 (H6 hc hr30)) Hd0 ⟨O,O,G⟩) O (JLo (BL r30) [47] O .optf ⟨Ua,G⟩ (fun hc=>G6 O O) O (JLo (G0 target) [] O .optt G (fun hc=>G6 O O) O ?_))
  obtain⟨r31,hr31,h⟩:=Gf h
  refine JLo (BL r31) [49] O .optt ⟨Ua,G⟩ (fun hc=>Gv (args:=[G0 target]) O (G57 target r31 (H6 hc hr31)) Hd0 ⟨O,O,G⟩) O (Gd (u:=BL (r30&&r31)) [(48,BL r30),(50,_)] O O O .optf ⟨.all id,.part,G⟩ (fun hc=>Qi O O O O) ?_)
  refine Gd (u:=BL ((decide (y28=target))||(r30&&r31))) [(42,BL (decide (y28=target))),(51,_)] O O O .sct ⟨.all id,.part,G⟩ (fun hc=>G5c O O O O) ?_
  refine JLh (BL ((decide (s16.1 < (x.length:Int)))&&((decide (y28=target))||(r30&&r31)))) (Qi O O O O) O (Qk (G0 s16.1) O (Qk (BL ((decide (s16.1 < (x.length:Int)))&&((decide (y28=target))||(r30&&r31)))) O (G7 (hK27 (Gu (⟨[G0 s16.1,BL ((decide (s16.1 < (x.length:Int)))&&((decide (y28=target))||(r30&&r31)))],[],G,O,⟨⟨_,O,.conv (.same O)⟩,⟨_,O,.conv (.same O)⟩,G⟩,O,congrArg (fun r:Int×Bool=>(.tup [G0 r.1,BL r.2]:AV)) (Option.some.inj h)⟩))))))

def H02 (F:Nat) (s:Gw) (boxes:List Gb) (l:List Stowed) (open_:List Int) (cover:Int):Option ((List Int)×Int):=
 bnd (Qr s boxes l open_) fun r4=>
 bif (!r4) then
 (some ([],2))
 else
 (bif ((decide (cover < 0))||(decide ((s.Covers.length:Int)≤cover))) then
  (some ([],6))
  else
  (bnd (G24 s l cover) fun r9=>
   bif decide (0 < (r9.length:Int)) then
   (some ([],95))
   else
   (bnd (Rz F open_ cover) fun r12=>
    bif r12.2 then
    (bnd (Qf open_) fun r16=>
     some (r16,0))
    else
    (bnd (G63 open_ r12.1 cover) fun r18=>
     some (r18,0)))))
theorem M_stow_Open_w (F:Nat) (s:Gw) (boxes:List Gb) (l:List Stowed) (open_:List Int) (cover:Int) (r:(List Int)×Int) (h:H02 F s boxes l open_ cover=some r):Pure Ek 13 [.agg (Gw.cs s),E2 boxes,E1 l,E0 open_,G0 cover] (·=.tup [E0 r.1,G0 r.2]):=by
 unfold H02 at h
 refine H1 [.tmp 10,.tmp 11] Tryz.func13 O O (Jr fun hK1=>(JLh (.ptr 1026 0) (Jn (cs:=(Gw.cs s)) 1026 O O O O O) O (JLh (E0 ([]:List Int)) (Hj 1 O O) O (Qk (G0 0) O (G7 (hK1 ?_))))))
 refine Gt [(1,E2 boxes),(2,E1 l),(3,E0 open_),(4,G0 cover),(5,Ec s)] [] 1026 rfl rfl rfl G rfl (by repeat' (first | exact .ptr | constructor)) (Js fun hK2=>Gx ?_)
 refine Jr fun hK3=>(JLh (.agg (Gw.cs s)) (Gj Hd O O O) O (Qk (E2 boxes) O (Qk (E1 l) O (Qk (E0 open_) O ?_))))
 obtain⟨r4,hr4,h⟩:=Gf h
 refine JLh (BL r4) (Gv O (Zz s boxes l open_ r4 hr4) Gcc ⟨O,O,O,O,O,O,O,O,G⟩) O (JLh (BL (!r4)) (Zn (b:=r4) O O) O (Qk (BL (!r4)) O (G7 (hK3 (JCc O h (fun h hb=>?_) (fun h hb=>?_))))))
 ·
  refine Jr fun hK5=>(JLh (E0 ([]:List Int)) (Hj 1 O O) O (Qk (G0 2) O (G7 (hK5 (Gu (⟨[E0 ([]:List Int),G0 2],[],G,O,⟨⟨_,O,.conv (.same O)⟩,⟨_,O,.conv (.same O)⟩,G⟩,O,congrArg (fun r:(List Int)×Int=>(.tup [E0 r.1,G0 r.2]:AV)) (Option.some.inj h)⟩))))))
 ·
  refine Jr fun hK6=>(Qk (G0 cover) O (JLh (BL (decide (cover < 0))) (Jm O O O) O (Qk (BL (decide (cover < 0))) O (JLo (G0 cover) [] O .scf G (fun hc=>G6 O O) O (JLo (.dptr [E6 s.Covers,G0 s.Light.Kilos,G0 s.Light.X,G0 s.Light.Y,G0 s.Light.Z,E3 s.Rows,E4 s.Frames,E5 s.Tanks,G0 s.G2.Tolerance,G0 s.G2.Trim,G0 s.G2.List_,G0 s.G2.Stability]) [] O .scf G (fun hc=>Gc Qc O O O) O (JLo (E6 s.Covers) [26] O .scf ⟨Ua,G⟩ (fun hc=>Gi Rh O O O) O (JLo (Ej s.Covers.length) [27] O .scf ⟨Ua,G⟩ (fun hc=>Zp (f:=G9.av) (xs:=s.Covers) Q6 O O) O (JLo (BL (decide ((s.Covers.length:Int)≤cover))) [25,28] O .scf ⟨Ua,Ua,G⟩ (fun hc=>G95 O O O) O (JLh (BL ((decide (cover < 0))||(decide ((s.Covers.length:Int)≤cover)))) (G5c O O O O) O (Qk (BL ((decide (cover < 0))||(decide ((s.Covers.length:Int)≤cover)))) O (G7 (hK6 ?_))))))))))))
  refine JCc O h (fun h hb=>?_) (fun h hb=>?_)
  ·
   refine Jr fun hK7=>(JLh (E0 ([]:List Int)) (Hj 1 O O) O (Qk (G0 6) O (G7 (hK7 (Gu (⟨[E0 ([]:List Int),G0 6],[],G,O,⟨⟨_,O,.conv (.same O)⟩,⟨_,O,.conv (.same O)⟩,G⟩,O,congrArg (fun r:(List Int)×Int=>(.tup [E0 r.1,G0 r.2]:AV)) (Option.some.inj h)⟩))))))
  ·
   refine Jr fun hK8=>(JLh (.agg (Gw.cs s)) (Gj Hd O O O) O (Qk (E1 l) O (Qk (G0 cover) O ?_)))
   obtain⟨r9,hr9,h⟩:=Gf h
   refine JLh (E0 r9) (Gv O (H23 s l cover r9 hr9) Hda ⟨O,O,O,O,O,O,G⟩) O (JLl Gh O O O fun hm36=>(JLh (BL (decide (0 < (r9.length:Int)))) (G67 O O O) O (Qk (BL (decide (0 < (r9.length:Int)))) O (G7 (hK8 (JCc O h (fun h hb=>?_) (fun h hb=>?_)))))))
   ·
    refine Jr fun hK10=>(JLh (E0 ([]:List Int)) (Hj 1 O O) O (Qk (G0 95) O (G7 (hK10 (Gu (⟨[E0 ([]:List Int),G0 95],[],G,O,⟨⟨_,O,.conv (.same O)⟩,⟨_,O,.conv (.same O)⟩,G⟩,O,congrArg (fun r:(List Int)×Int=>(.tup [E0 r.1,G0 r.2]:AV)) (Option.some.inj h)⟩))))))
   ·
    refine Gs (hK2 (Jr fun hK11=>(Qk (E0 open_) O (Qk (G0 cover) O ?_))))
    obtain⟨r12,hr12,h⟩:=Gf h
    refine JLh (.tup [G0 r12.1,BL r12.2]) (Gv O (G75 F open_ cover r12 hr12) J77 ⟨O,O,O,O,G⟩) O (Qk (.tup [G0 r12.1,BL r12.2]) O (JLh (G0 r12.1) (H8 O O O) O (JLh (BL r12.2) (H8 O O O) O (Qk (G0 r12.1) O (Qk (BL r12.2) O (G7 (hK11 (Js fun hK13=>Jr fun hK14=>(Qk (BL r12.2) O (G7 (hK14 (JCc O h (fun h hb=>?_) (fun h hb=>?_)))))))))))))
    ·
     refine Jr fun hK15=>(Qk (E0 open_) O ?_)
     obtain⟨r16,hr16,h⟩:=Gf h
     refine JLh (E0 r16) (Gv O (H05 open_ r16 hr16) J76 ⟨O,O,G⟩) O (Qk (E0 r16) O (Qk (G0 0) O (G7 (hK15 (Gu (⟨[E0 r16,G0 0],[],G,O,⟨⟨_,O,.conv (.same O)⟩,⟨_,O,.conv (.same O)⟩,G⟩,O,congrArg (fun r:(List Int)×Int=>(.tup [E0 r.1,G0 r.2]:AV)) (Option.some.inj h)⟩))))))
    ·
     refine Gs (hK13 (Jr fun hK17=>(Qk (E0 open_) O (Qk (G0 r12.1) O (Qk (G0 cover) O ?_)))))
     obtain⟨r18,hr18,h⟩:=Gf h
     refine JLh (E0 r18) (Gv O (H62.down open_ r12.1 cover r18 hr18) J75 ⟨O,O,O,O,O,O,G⟩) O (Qk (E0 r18) O (Qk (G0 0) O (G7 (hK17 (Gu (⟨[E0 r18,G0 0],[],G,O,⟨⟨_,O,.conv (.same O)⟩,⟨_,O,.conv (.same O)⟩,G⟩,O,congrArg (fun r:(List Int)×Int=>(.tup [E0 r.1,G0 r.2]:AV)) (Option.some.inj h)⟩))))))

def G06 (p:Ha):Option Bool:=
 bnd (Yr p.s p.x.Slot.G3) fun r4=>
 bnd (bif decide (0≤r4) then Yj p.s.Columns p.x.Slot.G3 some else some default) fun y6=>
 bnd (bif decide (0≤r4) then Jq p.open_ r4 else some default) fun r7=>
 some ((decide (0≤r4))&&(y6.Deck==r7))
theorem Ge5 (p:Ha) (r:Bool) (h:G06 p=some r):Pure Ek 39 [.agg (Ha.cs p)] (·=BL r):=by
 unfold G06 at h
 refine H1 [.tmp 2] Tryz.func39 O O (Jr fun hK1=>(JLh (.ptr 1062 0) (Jn (cs:=(Ha.cs p)) 1062 O O O O O) O (Qk (BL false) O (G7 (hK1 ?_)))))
 refine Gt [(1,Ef p)] [] 1062 rfl rfl rfl G rfl (by exact⟨.ptr,G⟩) (Jr fun hK2=>(JLh (Ed p.x) (Gc Yz O O O) O (JLh (.dptr ((Stowed.cs p.x).drop 1)) (Gc Hx O O O) O (JLh (.dptr ((Stowed.cs p.x).drop 1)) (Gc Jc O O O) O (JLh (G0 p.x.Slot.G3) (Gi Ge O O O) O (Qk (G0 p.x.Slot.G3) O (G7 (hK2 ?_))))))))
 refine Jr fun hK3=>(JLh (Ef p) (Gc Ga9 O O O) O (JLh (.agg (Gw.cs p.s)) (Gj Hd O O O) O (Qk (G0 p.x.Slot.G3) O ?_)))
 obtain⟨r4,hr4,h⟩:=Gf h
 refine JLh (G0 r4) (Gv O (Gbe p.s p.x.Slot.G3 r4 hr4) Hd3 ⟨O,O,O,O,G⟩) O (Qk (G0 r4) O (G7 (hK3 (Js fun hK5=>?_))))
 obtain⟨y6,hy6,h⟩:=Gf h
 obtain⟨r7,hr7,h⟩:=Gf h
 refine JC_d0 Qb (by kernel_rfl) (Dq (G0 r4) (G6 O O) O (Dq (BL (decide (0≤r4))) (G95 O O O) O (Dq (BL (decide (0≤r4))) (G6 O O) O (Do (Ef p) [] O .sct G (fun hc=>Gc Ga9 O O O) O (Do (Ef p) [16] O .sct ⟨Ua,G⟩ (fun hc=>Gc Hk O O O) O (Do (E7 p.s.Columns) [17] O .sct ⟨Ua,G⟩ (fun hc=>Gi J2 O O O) O (Do (G0 p.x.Slot.G3) [] O .sct G (fun hc=>G6 O O) O (Do (Ee y6) [18,19] O .sct ⟨Ua,Ua,G⟩ (fun hc=>(match Rt (H6 hc hy6) with | ⟨_,hm_,hy_⟩=>Hc (f:=G3.av) (xs:=p.s.Columns) (y:=y6) O O O Hq hy_ hm_)) O (Do (.dptr ((G3.cs y6).drop 2)) [20] O .sct ⟨Ua,G⟩ (fun hc=>Gc Rm O O O) O (Do (BL y6.Deck) [21] O .sct ⟨Ua,G⟩ (fun hc=>Gi Q7 O O O) O (Do (.dptr [E0 p.open_,G0 p.x.Gb,G0 p.x.Slot.G3,G0 p.x.Slot.Tier,U8 p.x.Slot.Half]) [] O .sct G (fun hc=>Gc J18 O O O) O (Do (E0 p.open_) [23] O .sct ⟨Ua,G⟩ (fun hc=>Gi Ys O O O) O (Do (G0 r4) [] O .sct G (fun hc=>G6 O O) O ?_)))))))))))))
 refine Do (BL r7) [24,25] O .sct ⟨Ua,Ua,G⟩ (fun hc=>Gv (args:=[E0 p.open_,G0 r4]) O (Yp p.open_ r4 r7 (H6 hc hr7)) H2f ⟨O,O,O,O,G⟩) O (Do (BL (y6.Deck==r7)) [22,26] O .sct ⟨Ua,Ua,G⟩ (fun hc=>J15 H72 O O O) O (Dq (BL ((decide (0≤r4))&&(y6.Deck==r7))) (Qi O O O O) O (Dq (BL ((decide (0≤r4))&&(y6.Deck==r7))) (G8 O O) O (Dnil (hK5 (Gu (fin1 BL h)))))))

def Y8 (y:Stowed) (p1:Ha):Option Bool:=
 bnd (G27 p1.x.Slot y.Slot) fun r3=>
 some r3
theorem Gda (y:Stowed) (p1:Ha) (r:Bool) (h:Y8 y p1=some r):Pure Ek 70 [.agg (Stowed.cs y),Ef p1] (·=BL r):=by
 unfold Y8 at h
 refine H1 [.tmp 3] Tryz.func70 O O (Jr fun hK1=>(JLh (.ptr 1091 0) (Jn (cs:=[G0 y.Gb,G0 y.Slot.G3,G0 y.Slot.Tier,U8 y.Slot.Half]) 1091 O O O O O) O (Qk (BL false) O (G7 (hK1 (Gt [(1,Ef p1),(2,Ed y)] [] 1091 rfl rfl rfl G rfl (by exact⟨.conv (.same rfl),.ptr,G⟩) (Jr fun hK2=>(JLh (.dptr ((Ha.cs p1).drop 16)) (Gc Yz O O O) O (JLh (.dptr ((Ha.cs p1).drop 17)) (Gc Hx O O O) O (JLh (.agg ((Ha.cs p1).drop 17)) (Gj Jw O O O) O (JLh (.dptr ((Stowed.cs y).drop 1)) (Gc Hx O O O) O (JLh (.agg ((Stowed.cs y).drop 1)) (Gj Jw O O O) O ?_))))))))))))
 obtain⟨r3,hr3,h⟩:=Gf h
 refine JLh (BL r3) (Gv O (H25 p1.x.Slot y.Slot r3 hr3) Hd5 ⟨O,O,O,O,G⟩) O (Qk (BL r3) O (G7 (hK2 (Gu (fin1 BL h)))))

def Qu (s:List Stowed) (f:Stowed→Option Bool):Option Bool:=
 bnd (Qe s f) fun r3=>
 some (decide (0≤r3))
theorem G2c (s:List Stowed) (f:Stowed→Option Bool) (f_f:FuncId) (f_c:List AV) (f_B:Hb Ek f_f=true) (f_d:R8 (fun _=>false) f_c=true) (f_w:∀ a0 q,f a0=some q→Pure Ek f_f ([.agg (Stowed.cs a0)]++f_c) (·=BL q)) (r:Bool) (h:Qu s f=some r):Pure Ek 69 [E1 s,.fn f_f f_c] (·=BL r):=by
 unfold Qu at h
 refine H1 [.tmp 4] Tryz.func69 O O (Jr fun hK1=>(Qk (BL false) O (G7 (hK1 (Jr fun hK2=>(Qk (E1 s) O (Qk (.fn f_f f_c) O ?_)))))))
 obtain⟨r3,hr3,h⟩:=Gf h
 refine JLh (G0 r3) (Gv O (Yo s f f_f f_c f_B f_d f_w r3 hr3) Hd2 ⟨O,O,O,f_d,G⟩) O (JLh (BL (decide (0≤r3))) (G95 O O O) O (Qk (BL (decide (0≤r3))) O (G7 (hK2 (Gu (fin1 BL h))))))

def G1f (p:Ha):Option Bool:=
 bnd (Qu p.l (fun z0=>Y8 z0 p)) fun r3=>
 some r3
theorem H00 (p:Ha) (r:Bool) (h:G1f p=some r):Pure Ek 40 [.agg (Ha.cs p)] (·=BL r):=by
 unfold G1f at h
 refine H1 [.tmp 2] Tryz.func40 O O (Jr fun hK1=>(JLh (.ptr 1063 0) (Jn (cs:=(Ha.cs p)) 1063 O O O O O) O (Qk (BL false) O (G7 (hK1 ?_)))))
 refine Gt [(1,Ef p)] [] 1063 rfl rfl rfl G rfl (by exact⟨.ptr,G⟩) ?_
 refine Jr fun hK2=>(JLh (.dptr [E1 p.l,E0 p.open_,G0 p.x.Gb,G0 p.x.Slot.G3,G0 p.x.Slot.Tier,U8 p.x.Slot.Half]) (Gc G09 O O O) O (JLh (E1 p.l) (Gi Qp O O O) O (JLh (.fn 70 [.dptr (Ha.cs p)]) (Yh (cs:=[.dptr (Ha.cs p)]) O O) O ?_)))
 obtain⟨r3,hr3,h⟩:=Gf h
 refine JLh (BL r3) (Gv O (G2c p.l (fun z0=>Y8 z0 p) 70 [.dptr (Ha.cs p)] J65 O (fun z0 q hq=>Gda z0 p q hq) r3 hr3) J66 ⟨O,O,O,O,G⟩) O (Qk (BL r3) O (G7 (hK2 (Gu (fin1 BL h)))))

def Zg (p:Ha):Option Bool:=
 bnd (Zx p.l) fun r3=>
 bnd (G28 p.x.Slot r3) fun r4=>
 some (!r4)
theorem Gdb (p:Ha) (r:Bool) (h:Zg p=some r):Pure Ek 41 [.agg (Ha.cs p)] (·=BL r):=by
 unfold Zg at h
 refine H1 [.tmp 2] Tryz.func41 O O (Jr fun hK1=>(JLh (.ptr 1064 0) (Jn (cs:=(Ha.cs p)) 1064 O O O O O) O (Qk (BL false) O (G7 (hK1 ?_)))))
 refine Gt [(1,Ef p)] [] 1064 rfl rfl rfl G rfl (by exact⟨.ptr,G⟩) (Js fun hK2=>?_)
 obtain⟨r3,hr3,h⟩:=Gf h
 obtain⟨r4,hr4,h⟩:=Gf h
 refine JC_d0 Qb (by kernel_rfl) (Dq (Ed p.x) (Gc Yz O O O) O (Dq (.dptr ((Stowed.cs p.x).drop 1)) (Gc Hx O O O) O (Dq (.agg ((Stowed.cs p.x).drop 1)) (Gj Jw O O O) O (Dq (.dptr [E1 p.l,E0 p.open_,G0 p.x.Gb,G0 p.x.Slot.G3,G0 p.x.Slot.Tier,U8 p.x.Slot.Half]) (Gc G09 O O O) O (Dq (E1 p.l) (Gi Qp O O O) O (Dq (E8 r3) (Gv (args:=[E1 p.l]) O (Gff p.l r3 hr3) Hd7 ⟨O,O,G⟩) O (Dq (BL r4) (Gv (args:=[.agg ((Stowed.cs p.x).drop 1),E8 r3]) O (H26 p.x.Slot r3 r4 hr4) Hd6 ⟨O,O,O,O,G⟩) O (Dq (BL (!r4)) (Zn (b:=r4) O O) O (Dq (BL (!r4)) (G8 O O) O (Dnil (hK2 (Gu (fin1 BL h)))))))))))))

def Rx (F:Nat) (p:Ha):Option (List Stowed):=
 loop (fun nx10 (s10:Int)=>
  bnd (bif decide (s10 < (p.l.length:Int)) then Yj p.l s10 some else some default) fun y13=>
  bif ((decide (s10 < (p.l.length:Int)))&&(decide (y13.Gb < p.x.Gb))) then
  (Zf (s10+1) fun v14=>
   nx10 v14)
  else
  (bnd (Z9 p.l s10 p.x) fun r16=>
   some r16)) F 0
theorem G25 (F:Nat) (p:Ha) (r:(List Stowed)) (h:Rx F p=some r):Pure Ek 43 [.agg (Ha.cs p)] (·=E1 r):=by
 unfold Rx at h
 refine H1 [.tmp 2] Tryz.func43 O O (Jr fun hK1=>(JLh (.ptr 1066 0) (Jn (cs:=(Ha.cs p)) 1066 O O O O O) O (JLh (E1 ([]:List Stowed)) (Hj 4 O O) O (G7 (hK1 ?_)))))
 refine Gt [(1,Ef p)] [] 1066 rfl rfl rfl G rfl (by exact⟨.ptr,G⟩) (Jr fun hK2=>(Qk (G0 0) O (G7 (hK2 (Js fun hK3=>Gx ?_)))))
 obtain⟨b10,hb10,h⟩:=loop_in h
 refine Hz (fun i10 (s10:Int)=>loop b10 i10 s10=some r) (fun i10 s10=>[(1,Ef p),(3,G0 s10)]) (fun i10 s10=>[]) (fun i10=>i10) F 0 h ⟨⟨.same O,.same O,G⟩,G,O⟩ ?_
 clear h
 intro i10 s10 hi10 K10 e10
 obtain⟨m10,nx10,hm_10,hn10,h⟩:=loop_out hi10
 replace h:=app2 hb10 h
 refine Js fun hK11=>Js fun hK12=>?_
 obtain⟨y13,hy13,h⟩:=Gf h
 refine JC_d0 Qb (by kernel_rfl) (Dq (G0 s10) (G6 O O) O (Dq (.dptr [E1 p.l,E0 p.open_,G0 p.x.Gb,G0 p.x.Slot.G3,G0 p.x.Slot.Tier,U8 p.x.Slot.Half]) (Gc G09 O O O) O (Dq (E1 p.l) (Gi Qp O O O) O (Dq (Ej p.l.length) (Zp (f:=Stowed.av) (xs:=p.l) H9 O O) O (Dq (BL (decide (s10 < (p.l.length:Int)))) (Jm O O O) O (Dq (BL (decide (s10 < (p.l.length:Int)))) (G6 O O) O (Do (.dptr [E1 p.l,E0 p.open_,G0 p.x.Gb,G0 p.x.Slot.G3,G0 p.x.Slot.Tier,U8 p.x.Slot.Half]) [] O .sct G (fun hc=>Gc G09 O O O) O (Do (E1 p.l) [10] O .sct ⟨Ua,G⟩ (fun hc=>Gi Qp O O O) O (Do (G0 s10) [] O .sct G (fun hc=>G6 O O) O (Do (Ed y13) [11,12] O .sct ⟨Ua,Ua,G⟩ (fun hc=>(match Rt (H6 hc hy13) with | ⟨_,hm_,hy_⟩=>Hc (f:=Stowed.av) (xs:=p.l) (y:=y13) O O O H9 hy_ hm_)) O (Do (Ed y13) [13] O .sct ⟨Ua,G⟩ (fun hc=>Gc Hr O O O) O (Do (G0 y13.Gb) [14] O .sct ⟨Ua,G⟩ (fun hc=>Gi Ge O O O) O (Do (Ed p.x) [] O .sct G (fun hc=>Gc Yz O O O) O ?_)))))))))))))
 refine Do (Ed p.x) [16] O .sct ⟨Ua,G⟩ (fun hc=>Gc Hr O O O) O (Do (G0 p.x.Gb) [17] O .sct ⟨Ua,G⟩ (fun hc=>Gi Ge O O O) O (Do (BL (decide (y13.Gb < p.x.Gb))) [15,18] O .sct ⟨Ua,Ua,G⟩ (fun hc=>Jm O O O) O (Dq (BL ((decide (s10 < (p.l.length:Int)))&&(decide (y13.Gb < p.x.Gb)))) (Qi O O O O) O (Dnil (hK12 (JCc O h (fun h hb=>?_) (fun h hb=>?_)))))))
 ·
  refine Gs (hK11 (Gx (G4 (Qk (G0 s10) O ?_))))
  obtain⟨v14,hv14,h⟩:=Je h
  refine JLh (G0 v14) (Hu hv14 O O O) O (Qk (G0 v14) O (G7 (e10 _ _ m10 v14 (app1 hn10 h) (by omega) ⟨⟨.same rfl,.same rfl,G⟩,G,rfl⟩)))
 ·
  refine J9 (hK3 (Jr fun hK15=>(JLh (.dptr [E1 p.l,E0 p.open_,G0 p.x.Gb,G0 p.x.Slot.G3,G0 p.x.Slot.Tier,U8 p.x.Slot.Half]) (Gc G09 O O O) O (JLh (E1 p.l) (Gi Qp O O O) O (Qk (G0 s10) O (JLh (Ed p.x) (Gc Yz O O O) O (JLh (.agg (Stowed.cs p.x)) (Gj Ym O O O) O ?_)))))))
  obtain⟨r16,hr16,h⟩:=Gf h
  refine JLh (E1 r16) (Gv O (Gbb.down p.l s10 p.x r16 hr16) J64 ⟨O,O,O,O,O,O,G⟩) O (Qk (E1 r16) O (G7 (hK15 (Gu (fin1 (fun r:(List Stowed)=>(E1 r:AV)) h)))))

def G07 (F:Nat) (p:Ha):Option Bool:=
 bnd (Rx F p) fun r3=>
 bnd (G26 p.s p.boxes r3 p.x.Slot.G3) fun r4=>
 some (!r4)
theorem Ge6 (F:Nat) (p:Ha) (r:Bool) (h:G07 F p=some r):Pure Ek 42 [.agg (Ha.cs p)] (·=BL r):=by
 unfold G07 at h
 refine H1 [.tmp 2] Tryz.func42 O O (Jr fun hK1=>(JLh (.ptr 1065 0) (Jn (cs:=(Ha.cs p)) 1065 O O O O O) O (Qk (BL false) O (G7 (hK1 ?_)))))
 refine Gt [(1,Ef p)] [] 1065 rfl rfl rfl G rfl (by exact⟨.ptr,G⟩) (Js fun hK2=>?_)
 obtain⟨r3,hr3,h⟩:=Gf h
 obtain⟨r4,hr4,h⟩:=Gf h
 refine JC_d0 Qb (by kernel_rfl) (Dq (Ef p) (Gc Ga9 O O O) O (Dq (.agg (Gw.cs p.s)) (Gj Hd O O O) O (Dq (.dptr [E2 p.boxes,E1 p.l,E0 p.open_,G0 p.x.Gb,G0 p.x.Slot.G3,G0 p.x.Slot.Tier,U8 p.x.Slot.Half]) (Gc J19 O O O) O (Dq (E2 p.boxes) (Gi J2a O O O) O (Dq (.agg (Ha.cs p)) (Gj G78 O O O) O (Dq (E1 r3) (Gv (args:=[.agg (Ha.cs p)]) O (G25 F p r3 hr3) Hd8 ⟨O,O,G⟩) O (Dq (Ed p.x) (Gc Yz O O O) O (Dq (.dptr ((Stowed.cs p.x).drop 1)) (Gc Hx O O O) O (Dq (.dptr ((Stowed.cs p.x).drop 1)) (Gc Jc O O O) O (Dq (G0 p.x.Slot.G3) (Gi Ge O O O) O (Dq (BL r4) (Gv (args:=[.agg (Gw.cs p.s),E2 p.boxes,E1 r3,G0 p.x.Slot.G3]) O (H24 p.s p.boxes r3 p.x.Slot.G3 r4 hr4) Hd4 ⟨O,O,O,O,O,O,O,O,G⟩) O (Dq (BL (!r4)) (Zn (b:=r4) O O) O (Dq (BL (!r4)) (G8 O O) O (Dnil ?_))))))))))))))
 refine hK2 (Gu (fin1 BL h))

def Gdc (F:Nat) (s:Gw) (boxes:List Gb) (l:List Stowed) (open_:List Int) (x:Stowed):Option ((List Stowed)×Int):=
 bnd (Qr s boxes l open_) fun r4=>
 bif (!r4) then
 (some ([],2))
 else
 (bnd (Zh boxes x.Gb) fun r7=>
  bif ((!r7.2)||((decide (r7.1.Size≠20))&&(decide (r7.1.Size≠40)))) then
  (some ([],6))
  else
  (bnd (Rr l x.Gb) fun r12=>
   bif decide (0≤r12) then
   (some ([],96))
   else
   (bnd (G00 s x.Slot r7.1.Size) fun r15=>
    bif (!r15) then
    (some ([],97))
    else
    (need (decide (4≤9223372036854775807)) <|
     upto (fun i60 (s60:Unit) nx60=>
      jp (fun kj63=>
       bif decide ((i60:Int)=0) then
       (bnd (G06 (Ha.mk s boxes l open_ x)) fun r67=>
        bif r67 then
        (Zf (91+(i60:Int)) fun v69=>
         some ([],v69))
        else
        (kj63 ()))
       else
       (bif decide ((i60:Int)=1) then
        (bnd (G1f (Ha.mk s boxes l open_ x)) fun r71=>
         bif r71 then
         (Zf (91+(i60:Int)) fun v73=>
          some ([],v73))
         else
         (kj63 ()))
        else
        (bif decide ((i60:Int)=2) then
         (bnd (Zg (Ha.mk s boxes l open_ x)) fun r75=>
          bif r75 then
          (Zf (91+(i60:Int)) fun v77=>
           some ([],v77))
          else
          (kj63 ()))
         else
         (bif decide ((i60:Int)=3) then
          (bnd (G07 F (Ha.mk s boxes l open_ x)) fun r79=>
           bif r79 then
           (Zf (91+(i60:Int)) fun v81=>
            some ([],v81))
           else
           (kj63 ()))
          else
          (none))))) fun(j63:Unit)=>
      nx60 ())
     (fun(s60:Unit)=>
      bnd (Rx F (Ha.mk s boxes l open_ x)) fun r83=>
      some (r83,0)) (4:Int).toNat 0 ()))))
theorem H65 (F:Nat) (s:Gw) (boxes:List Gb) (l:List Stowed) (open_:List Int) (x:Stowed) (r:(List Stowed)×Int) (h:Gdc F s boxes l open_ x=some r):Pure Ek 16 [.agg (Gw.cs s),E2 boxes,E1 l,E0 open_,.agg (Stowed.cs x)] (·=.tup [E1 r.1,G0 r.2]):=by
 unfold Gdc at h
 refine H1 [.tmp 10,.tmp 11] Tryz.func16 O O (Jr fun hK1=>(JLh (.ptr 1028 0) (Jn (cs:=(Gw.cs s)) 1028 O O O O O) O (JLh (.ptr 1029 0) (Jn (cs:=[G0 x.Gb,G0 x.Slot.G3,G0 x.Slot.Tier,U8 x.Slot.Half]) 1029 O O O O O) O (JLh (E1 ([]:List Stowed)) (Hj 4 O O) O (Qk (G0 0) O (G7 (hK1 ?_)))))))
 refine Gt [(1,E2 boxes),(2,E1 l),(3,E0 open_),(5,Ec s),(9,.ptr 1029 0)] [(1029,.box 47 [G0 x.Gb,G0 x.Slot.G3,G0 x.Slot.Tier,U8 x.Slot.Half])] 1028 rfl rfl rfl ⟨⟨_,rfl,.boxEq rfl rfl⟩,G⟩ rfl (by repeat' (first | exact .ptr | constructor)) ?_
 refine Gt [(1,E2 boxes),(2,E1 l),(3,E0 open_),(5,Ec s),(9,Ed x)] [] 1029 rfl rfl rfl G rfl (by repeat' (first | exact .ptr | constructor)) (Js fun hK2=>?_)
 refine Jr fun hK3=>(JLh (.agg (Gw.cs s)) (Gj Hd O O O) O (Qk (E2 boxes) O (Qk (E1 l) O (Qk (E0 open_) O ?_))))
 obtain⟨r4,hr4,h⟩:=Gf h
 refine JLh (BL r4) (Gv O (Zz s boxes l open_ r4 hr4) Gcc ⟨O,O,O,O,O,O,O,O,G⟩) O (JLh (BL (!r4)) (Zn (b:=r4) O O) O (G7 (hK3 (JCc O h (fun h hb=>?_) (fun h hb=>?_)))))
 ·
  refine Jr fun hK5=>(JLh (E1 ([]:List Stowed)) (Hj 4 O O) O (Qk (G0 2) O (G7 (hK5 (Gu (⟨[E1 ([]:List Stowed),G0 2],[],G,O,⟨⟨_,O,.conv (.same O)⟩,⟨_,O,.conv (.same O)⟩,G⟩,O,congrArg (fun r:(List Stowed)×Int=>(.tup [E1 r.1,G0 r.2]:AV)) (Option.some.inj h)⟩))))))
 ·
  refine Gs (hK2 (Jr fun hK6=>(Qk (E2 boxes) O (JLh (Ed x) (Gc Hr O O O) O (JLh (G0 x.Gb) (Gi Ge O O O) O ?_)))))
  obtain⟨r7,hr7,h⟩:=Gf h
  refine JLh (.tup [.agg (Gb.cs r7.1),BL r7.2]) (Gv O (Gaf boxes x.Gb r7 hr7) H2e ⟨O,O,O,O,G⟩) O (Qk (.tup [.agg (Gb.cs r7.1),BL r7.2]) O (JLh (.agg (Gb.cs r7.1)) (H8 O O O) O (JLh (BL r7.2) (H8 O O O) O (JLh (.ptr 1030 0) (Jd 1030 9 G20 O O) O (J5 (u:=.junk) (Hp (u:=.agg (Gb.cs r7.1)) (ds:=(Gb.cs r7.1)) G39 O O O O O O O O) (Qk (BL r7.2) O (G7 (hK6 ?_))))))))
  refine Gt [(1,E2 boxes),(2,E1 l),(3,E0 open_),(5,Ec s),(9,Ed x),(12,Eh r7.1),(13,BL r7.2)] [] 1030 rfl rfl rfl G rfl (by repeat' (first | exact .ptr | constructor)) (Js fun hK8=>Gx ?_)
  refine Jr fun hK9=>(Qk (BL r7.2) O (JLh (BL (!r7.2)) (Zn (b:=r7.2) O O) O (Qk (BL (!r7.2)) O (JLo (.dptr ((Gb.cs r7.1).drop 2)) [] O .scf G (fun hc=>Gc Z0 O O O) O (JLo (U8 r7.1.Size) [34] O .scf ⟨Ua,G⟩ (fun hc=>Gi J6 O O O) O (JLo (BL (decide (r7.1.Size≠20))) [35] O .scf ⟨Ua,G⟩ (fun hc=>H6a O O O) O (JLo (BL (decide (r7.1.Size≠20))) [36] O .scf ⟨Ua,G⟩ (fun hc=>G6 O O) O (JLo (.dptr ((Gb.cs r7.1).drop 2)) [] O .optt G (fun hc=>Gc Z0 O O O) O (JLo (U8 r7.1.Size) [38] O .optt ⟨Ua,G⟩ (fun hc=>Gi J6 O O O) O (JLo (BL (decide (r7.1.Size≠40))) [39] O .optt ⟨Ua,G⟩ (fun hc=>H6a O O O) O (Gd (u:=BL ((decide (r7.1.Size≠20))&&(decide (r7.1.Size≠40)))) [(37,BL (decide (r7.1.Size≠20))),(40,_)] O O O .scf ⟨.all id,.part,G⟩ (fun hc=>Qi O O O O) ?_)))))))))))
  refine JLh (BL ((!r7.2)||((decide (r7.1.Size≠20))&&(decide (r7.1.Size≠40))))) (G5c O O O O) O (Qk (BL ((!r7.2)||((decide (r7.1.Size≠20))&&(decide (r7.1.Size≠40))))) O (G7 (hK9 (JCc O h (fun h hb=>?_) (fun h hb=>?_)))))
  ·
   refine Jr fun hK10=>(JLh (E1 ([]:List Stowed)) (Hj 4 O O) O (Qk (G0 6) O (G7 (hK10 (Gu (⟨[E1 ([]:List Stowed),G0 6],[],G,O,⟨⟨_,O,.conv (.same O)⟩,⟨_,O,.conv (.same O)⟩,G⟩,O,congrArg (fun r:(List Stowed)×Int=>(.tup [E1 r.1,G0 r.2]:AV)) (Option.some.inj h)⟩))))))
  ·
   refine Jr fun hK11=>(Qk (E1 l) O (JLh (Ed x) (Gc Hr O O O) O (JLh (G0 x.Gb) (Gi Ge O O O) O ?_)))
   obtain⟨r12,hr12,h⟩:=Gf h
   refine JLh (G0 r12) (Gv O (G10 l x.Gb r12 hr12) G7f ⟨O,O,O,O,G⟩) O (JLh (BL (decide (0≤r12))) (G95 O O O) O (Qk (BL (decide (0≤r12))) O (G7 (hK11 (JCc O h (fun h hb=>?_) (fun h hb=>?_))))))
   ·
    refine Jr fun hK13=>(JLh (E1 ([]:List Stowed)) (Hj 4 O O) O (Qk (G0 96) O (G7 (hK13 (Gu (⟨[E1 ([]:List Stowed),G0 96],[],G,O,⟨⟨_,O,.conv (.same O)⟩,⟨_,O,.conv (.same O)⟩,G⟩,O,congrArg (fun r:(List Stowed)×Int=>(.tup [E1 r.1,G0 r.2]:AV)) (Option.some.inj h)⟩))))))
   ·
    refine Jr fun hK14=>(JLh (.agg (Gw.cs s)) (Gj Hd O O O) O (JLh (.dptr ((Stowed.cs x).drop 1)) (Gc Hx O O O) O (JLh (.agg ((Stowed.cs x).drop 1)) (Gj Jw O O O) O (JLh (.dptr ((Gb.cs r7.1).drop 2)) (Gc Z0 O O O) O (JLh (U8 r7.1.Size) (Gi J6 O O O) O ?_)))))
    obtain⟨r15,hr15,h⟩:=Gf h
    refine JLh (BL r15) (Gv O (H03 s x.Slot r7.1.Size r15 hr15) Hd9 ⟨O,O,O,O,O,O,G⟩) O (JLh (BL (!r15)) (Zn (b:=r15) O O) O (Qk (BL (!r15)) O (G7 (hK14 (JCc O h (fun h hb=>?_) (fun h hb=>?_))))))
    ·
     refine Jr fun hK16=>(JLh (E1 ([]:List Stowed)) (Hj 4 O O) O (Qk (G0 97) O (G7 (hK16 (Gu (⟨[E1 ([]:List Stowed),G0 97],[],G,O,⟨⟨_,O,.conv (.same O)⟩,⟨_,O,.conv (.same O)⟩,G⟩,O,congrArg (fun r:(List Stowed)×Int=>(.tup [E1 r.1,G0 r.2]:AV)) (Option.some.inj h)⟩))))))
    ·
     refine Gs (hK8 ?_)
     refine Jr fun hK17=>(JLh (.agg (Gw.cs s)) (Gj Hd O O O) O (Qk (E2 boxes) O (Qk (E1 l) O (Qk (E0 open_) O (JLh (.agg (Stowed.cs x)) (Gj Ym O O O) O (JLh (.agg [E7 s.Columns,E6 s.Covers,G0 s.Light.Kilos,G0 s.Light.X,G0 s.Light.Y,G0 s.Light.Z,E3 s.Rows,E4 s.Frames,E5 s.Tanks,G0 s.G2.Tolerance,G0 s.G2.Trim,G0 s.G2.List_,G0 s.G2.Stability,E2 boxes,E1 l,E0 open_,G0 x.Gb,G0 x.Slot.G3,G0 x.Slot.Tier,U8 x.Slot.Half]) (Ho (cs:=[E7 s.Columns,E6 s.Covers,G0 s.Light.Kilos,G0 s.Light.X,G0 s.Light.Y,G0 s.Light.Z,E3 s.Rows,E4 s.Frames,E5 s.Tanks,G0 s.G2.Tolerance,G0 s.G2.Trim,G0 s.G2.List_,G0 s.G2.Stability,E2 boxes,E1 l,E0 open_,G0 x.Gb,G0 x.Slot.G3,G0 x.Slot.Tier,U8 x.Slot.Half]) [(0,13),(13,1),(14,1),(15,1),(16,4)] [E7 ([]:List G3),E6 ([]:List G9),G0 0,G0 0,G0 0,G0 0,E3 ([]:List Row),E4 ([]:List Frame),E5 ([]:List Gg),G0 0,G0 0,G0 0,G0 0,E2 ([]:List Gb),E1 ([]:List Stowed),E0 ([]:List Int),G0 0,G0 0,G0 0,U8 0] [.slice none 0 0,.slice none 0 0,.int .i64 0,.int .i64 0,.int .i64 0,.int .i64 0,.slice none 0 0,.slice none 0 0,.slice none 0 0,.int .i64 0,.int .i64 0,.int .i64 0,.int .i64 0,.slice none 0 0,.slice none 0 0,.slice none 0 0,.int .i64 0,.int .i64 0,.int .i64 0,.int .u8 0] J2b J51 ⟨.inr ⟨_,O,O⟩,.inr ⟨_,O,O⟩,.inl O,.inl O,.inl O,.inl O,.inr ⟨_,O,O⟩,.inr ⟨_,O,O⟩,.inr ⟨_,O,O⟩,.inl O,.inl O,.inl O,.inl O,.inr ⟨_,O,O⟩,.inr ⟨_,O,O⟩,.inr ⟨_,O,O⟩,.inl O,.inl O,.inl O,.inl O,G⟩ O O) O (JLh (.ptr 1031 0) (Jd 1031 20 J33 O O) O (J5 (u:=.junk) (Hp (u:=.agg [E7 s.Columns,E6 s.Covers,G0 s.Light.Kilos,G0 s.Light.X,G0 s.Light.Y,G0 s.Light.Z,E3 s.Rows,E4 s.Frames,E5 s.Tanks,G0 s.G2.Tolerance,G0 s.G2.Trim,G0 s.G2.List_,G0 s.G2.Stability,E2 boxes,E1 l,E0 open_,G0 x.Gb,G0 x.Slot.G3,G0 x.Slot.Tier,U8 x.Slot.Half]) (ds:=[E7 s.Columns,E6 s.Covers,G0 s.Light.Kilos,G0 s.Light.X,G0 s.Light.Y,G0 s.Light.Z,E3 s.Rows,E4 s.Frames,E5 s.Tanks,G0 s.G2.Tolerance,G0 s.G2.Trim,G0 s.G2.List_,G0 s.G2.Stability,E2 boxes,E1 l,E0 open_,G0 x.Gb,G0 x.Slot.G3,G0 x.Slot.Tier,U8 x.Slot.Half]) J54 O O O O O O O O) (G7 (hK17 ?_))))))))))
     refine Gt [(14,.dptr [E7 s.Columns,E6 s.Covers,G0 s.Light.Kilos,G0 s.Light.X,G0 s.Light.Y,G0 s.Light.Z,E3 s.Rows,E4 s.Frames,E5 s.Tanks,G0 s.G2.Tolerance,G0 s.G2.Trim,G0 s.G2.List_,G0 s.G2.Stability,E2 boxes,E1 l,E0 open_,G0 x.Gb,G0 x.Slot.G3,G0 x.Slot.Tier,U8 x.Slot.Half])] [] 1031 rfl rfl rfl G rfl (by exact⟨.ptr,G⟩) (Js fun hK18=>?_)
     refine Jr fun hK19=>(JLh (.agg [E7 s.Columns,E6 s.Covers,G0 s.Light.Kilos,G0 s.Light.X,G0 s.Light.Y,G0 s.Light.Z,E3 s.Rows,E4 s.Frames,E5 s.Tanks,G0 s.G2.Tolerance,G0 s.G2.Trim,G0 s.G2.List_,G0 s.G2.Stability,E2 boxes,E1 l,E0 open_,G0 x.Gb,G0 x.Slot.G3,G0 x.Slot.Tier,U8 x.Slot.Half]) (Gj G78 O O O) O (JLh (.bfn 39 [.agg [E7 s.Columns,E6 s.Covers,G0 s.Light.Kilos,G0 s.Light.X,G0 s.Light.Y,G0 s.Light.Z,E3 s.Rows,E4 s.Frames,E5 s.Tanks,G0 s.G2.Tolerance,G0 s.G2.Trim,G0 s.G2.List_,G0 s.G2.Stability,E2 boxes,E1 l,E0 open_,G0 x.Gb,G0 x.Slot.G3,G0 x.Slot.Tier,U8 x.Slot.Half]]) (Ga8 (cs:=[.agg [E7 s.Columns,E6 s.Covers,G0 s.Light.Kilos,G0 s.Light.X,G0 s.Light.Y,G0 s.Light.Z,E3 s.Rows,E4 s.Frames,E5 s.Tanks,G0 s.G2.Tolerance,G0 s.G2.Trim,G0 s.G2.List_,G0 s.G2.Stability,E2 boxes,E1 l,E0 open_,G0 x.Gb,G0 x.Slot.G3,G0 x.Slot.Tier,U8 x.Slot.Half]]) O O) O (JLh (.agg [E7 s.Columns,E6 s.Covers,G0 s.Light.Kilos,G0 s.Light.X,G0 s.Light.Y,G0 s.Light.Z,E3 s.Rows,E4 s.Frames,E5 s.Tanks,G0 s.G2.Tolerance,G0 s.G2.Trim,G0 s.G2.List_,G0 s.G2.Stability,E2 boxes,E1 l,E0 open_,G0 x.Gb,G0 x.Slot.G3,G0 x.Slot.Tier,U8 x.Slot.Half]) (Gj G78 O O O) O (JLh (.bfn 40 [.agg [E7 s.Columns,E6 s.Covers,G0 s.Light.Kilos,G0 s.Light.X,G0 s.Light.Y,G0 s.Light.Z,E3 s.Rows,E4 s.Frames,E5 s.Tanks,G0 s.G2.Tolerance,G0 s.G2.Trim,G0 s.G2.List_,G0 s.G2.Stability,E2 boxes,E1 l,E0 open_,G0 x.Gb,G0 x.Slot.G3,G0 x.Slot.Tier,U8 x.Slot.Half]]) (Ga8 (cs:=[.agg [E7 s.Columns,E6 s.Covers,G0 s.Light.Kilos,G0 s.Light.X,G0 s.Light.Y,G0 s.Light.Z,E3 s.Rows,E4 s.Frames,E5 s.Tanks,G0 s.G2.Tolerance,G0 s.G2.Trim,G0 s.G2.List_,G0 s.G2.Stability,E2 boxes,E1 l,E0 open_,G0 x.Gb,G0 x.Slot.G3,G0 x.Slot.Tier,U8 x.Slot.Half]]) O O) O (JLh (.agg [E7 s.Columns,E6 s.Covers,G0 s.Light.Kilos,G0 s.Light.X,G0 s.Light.Y,G0 s.Light.Z,E3 s.Rows,E4 s.Frames,E5 s.Tanks,G0 s.G2.Tolerance,G0 s.G2.Trim,G0 s.G2.List_,G0 s.G2.Stability,E2 boxes,E1 l,E0 open_,G0 x.Gb,G0 x.Slot.G3,G0 x.Slot.Tier,U8 x.Slot.Half]) (Gj G78 O O O) O (JLh (.bfn 41 [.agg [E7 s.Columns,E6 s.Covers,G0 s.Light.Kilos,G0 s.Light.X,G0 s.Light.Y,G0 s.Light.Z,E3 s.Rows,E4 s.Frames,E5 s.Tanks,G0 s.G2.Tolerance,G0 s.G2.Trim,G0 s.G2.List_,G0 s.G2.Stability,E2 boxes,E1 l,E0 open_,G0 x.Gb,G0 x.Slot.G3,G0 x.Slot.Tier,U8 x.Slot.Half]]) (Ga8 (cs:=[.agg [E7 s.Columns,E6 s.Covers,G0 s.Light.Kilos,G0 s.Light.X,G0 s.Light.Y,G0 s.Light.Z,E3 s.Rows,E4 s.Frames,E5 s.Tanks,G0 s.G2.Tolerance,G0 s.G2.Trim,G0 s.G2.List_,G0 s.G2.Stability,E2 boxes,E1 l,E0 open_,G0 x.Gb,G0 x.Slot.G3,G0 x.Slot.Tier,U8 x.Slot.Half]]) O O) O (JLh (.agg [E7 s.Columns,E6 s.Covers,G0 s.Light.Kilos,G0 s.Light.X,G0 s.Light.Y,G0 s.Light.Z,E3 s.Rows,E4 s.Frames,E5 s.Tanks,G0 s.G2.Tolerance,G0 s.G2.Trim,G0 s.G2.List_,G0 s.G2.Stability,E2 boxes,E1 l,E0 open_,G0 x.Gb,G0 x.Slot.G3,G0 x.Slot.Tier,U8 x.Slot.Half]) (Gj G78 O O O) O (JLh (.bfn 42 [.agg [E7 s.Columns,E6 s.Covers,G0 s.Light.Kilos,G0 s.Light.X,G0 s.Light.Y,G0 s.Light.Z,E3 s.Rows,E4 s.Frames,E5 s.Tanks,G0 s.G2.Tolerance,G0 s.G2.Trim,G0 s.G2.List_,G0 s.G2.Stability,E2 boxes,E1 l,E0 open_,G0 x.Gb,G0 x.Slot.G3,G0 x.Slot.Tier,U8 x.Slot.Half]]) (Ga8 (cs:=[.agg [E7 s.Columns,E6 s.Covers,G0 s.Light.Kilos,G0 s.Light.X,G0 s.Light.Y,G0 s.Light.Z,E3 s.Rows,E4 s.Frames,E5 s.Tanks,G0 s.G2.Tolerance,G0 s.G2.Trim,G0 s.G2.List_,G0 s.G2.Stability,E2 boxes,E1 l,E0 open_,G0 x.Gb,G0 x.Slot.G3,G0 x.Slot.Tier,U8 x.Slot.Half]]) O O) O (JLh (.agg [.bfn 39 [.agg [E7 s.Columns,E6 s.Covers,G0 s.Light.Kilos,G0 s.Light.X,G0 s.Light.Y,G0 s.Light.Z,E3 s.Rows,E4 s.Frames,E5 s.Tanks,G0 s.G2.Tolerance,G0 s.G2.Trim,G0 s.G2.List_,G0 s.G2.Stability,E2 boxes,E1 l,E0 open_,G0 x.Gb,G0 x.Slot.G3,G0 x.Slot.Tier,U8 x.Slot.Half]],.bfn 40 [.agg [E7 s.Columns,E6 s.Covers,G0 s.Light.Kilos,G0 s.Light.X,G0 s.Light.Y,G0 s.Light.Z,E3 s.Rows,E4 s.Frames,E5 s.Tanks,G0 s.G2.Tolerance,G0 s.G2.Trim,G0 s.G2.List_,G0 s.G2.Stability,E2 boxes,E1 l,E0 open_,G0 x.Gb,G0 x.Slot.G3,G0 x.Slot.Tier,U8 x.Slot.Half]],.bfn 41 [.agg [E7 s.Columns,E6 s.Covers,G0 s.Light.Kilos,G0 s.Light.X,G0 s.Light.Y,G0 s.Light.Z,E3 s.Rows,E4 s.Frames,E5 s.Tanks,G0 s.G2.Tolerance,G0 s.G2.Trim,G0 s.G2.List_,G0 s.G2.Stability,E2 boxes,E1 l,E0 open_,G0 x.Gb,G0 x.Slot.G3,G0 x.Slot.Tier,U8 x.Slot.Half]],.bfn 42 [.agg [E7 s.Columns,E6 s.Covers,G0 s.Light.Kilos,G0 s.Light.X,G0 s.Light.Y,G0 s.Light.Z,E3 s.Rows,E4 s.Frames,E5 s.Tanks,G0 s.G2.Tolerance,G0 s.G2.Trim,G0 s.G2.List_,G0 s.G2.Stability,E2 boxes,E1 l,E0 open_,G0 x.Gb,G0 x.Slot.G3,G0 x.Slot.Tier,U8 x.Slot.Half]]]) (H45 (cs:=[.bfn 39 [.agg [E7 s.Columns,E6 s.Covers,G0 s.Light.Kilos,G0 s.Light.X,G0 s.Light.Y,G0 s.Light.Z,E3 s.Rows,E4 s.Frames,E5 s.Tanks,G0 s.G2.Tolerance,G0 s.G2.Trim,G0 s.G2.List_,G0 s.G2.Stability,E2 boxes,E1 l,E0 open_,G0 x.Gb,G0 x.Slot.G3,G0 x.Slot.Tier,U8 x.Slot.Half]],.bfn 40 [.agg [E7 s.Columns,E6 s.Covers,G0 s.Light.Kilos,G0 s.Light.X,G0 s.Light.Y,G0 s.Light.Z,E3 s.Rows,E4 s.Frames,E5 s.Tanks,G0 s.G2.Tolerance,G0 s.G2.Trim,G0 s.G2.List_,G0 s.G2.Stability,E2 boxes,E1 l,E0 open_,G0 x.Gb,G0 x.Slot.G3,G0 x.Slot.Tier,U8 x.Slot.Half]],.bfn 41 [.agg [E7 s.Columns,E6 s.Covers,G0 s.Light.Kilos,G0 s.Light.X,G0 s.Light.Y,G0 s.Light.Z,E3 s.Rows,E4 s.Frames,E5 s.Tanks,G0 s.G2.Tolerance,G0 s.G2.Trim,G0 s.G2.List_,G0 s.G2.Stability,E2 boxes,E1 l,E0 open_,G0 x.Gb,G0 x.Slot.G3,G0 x.Slot.Tier,U8 x.Slot.Half]],.bfn 42 [.agg [E7 s.Columns,E6 s.Covers,G0 s.Light.Kilos,G0 s.Light.X,G0 s.Light.Y,G0 s.Light.Z,E3 s.Rows,E4 s.Frames,E5 s.Tanks,G0 s.G2.Tolerance,G0 s.G2.Trim,G0 s.G2.List_,G0 s.G2.Stability,E2 boxes,E1 l,E0 open_,G0 x.Gb,G0 x.Slot.G3,G0 x.Slot.Tier,U8 x.Slot.Half]]]) [.nilFunc,.nilFunc,.nilFunc,.nilFunc] tf_arr_99 J50 O O) O (Qk (G0 0) O (G7 (hK19 ?_))))))))))))
     refine Gx ?_
     obtain⟨hx60,h⟩:=Jf h
     obtain⟨b60,kx60,hb60,hkx60,h⟩:=upto_in h
     refine Hz (fun i60 (s60:Unit)=>upto b60 kx60 ((4:Int).toNat - i60) i60 s60=some r) (fun i60 s60=>[(14,.dptr [E7 s.Columns,E6 s.Covers,G0 s.Light.Kilos,G0 s.Light.X,G0 s.Light.Y,G0 s.Light.Z,E3 s.Rows,E4 s.Frames,E5 s.Tanks,G0 s.G2.Tolerance,G0 s.G2.Trim,G0 s.G2.List_,G0 s.G2.Stability,E2 boxes,E1 l,E0 open_,G0 x.Gb,G0 x.Slot.G3,G0 x.Slot.Tier,U8 x.Slot.Half]),(71,.agg [.bfn 39 [.agg [E7 s.Columns,E6 s.Covers,G0 s.Light.Kilos,G0 s.Light.X,G0 s.Light.Y,G0 s.Light.Z,E3 s.Rows,E4 s.Frames,E5 s.Tanks,G0 s.G2.Tolerance,G0 s.G2.Trim,G0 s.G2.List_,G0 s.G2.Stability,E2 boxes,E1 l,E0 open_,G0 x.Gb,G0 x.Slot.G3,G0 x.Slot.Tier,U8 x.Slot.Half]],.bfn 40 [.agg [E7 s.Columns,E6 s.Covers,G0 s.Light.Kilos,G0 s.Light.X,G0 s.Light.Y,G0 s.Light.Z,E3 s.Rows,E4 s.Frames,E5 s.Tanks,G0 s.G2.Tolerance,G0 s.G2.Trim,G0 s.G2.List_,G0 s.G2.Stability,E2 boxes,E1 l,E0 open_,G0 x.Gb,G0 x.Slot.G3,G0 x.Slot.Tier,U8 x.Slot.Half]],.bfn 41 [.agg [E7 s.Columns,E6 s.Covers,G0 s.Light.Kilos,G0 s.Light.X,G0 s.Light.Y,G0 s.Light.Z,E3 s.Rows,E4 s.Frames,E5 s.Tanks,G0 s.G2.Tolerance,G0 s.G2.Trim,G0 s.G2.List_,G0 s.G2.Stability,E2 boxes,E1 l,E0 open_,G0 x.Gb,G0 x.Slot.G3,G0 x.Slot.Tier,U8 x.Slot.Half]],.bfn 42 [.agg [E7 s.Columns,E6 s.Covers,G0 s.Light.Kilos,G0 s.Light.X,G0 s.Light.Y,G0 s.Light.Z,E3 s.Rows,E4 s.Frames,E5 s.Tanks,G0 s.G2.Tolerance,G0 s.G2.Trim,G0 s.G2.List_,G0 s.G2.Stability,E2 boxes,E1 l,E0 open_,G0 x.Gb,G0 x.Slot.G3,G0 x.Slot.Tier,U8 x.Slot.Half]]]),(72,Ej i60)]) (fun i60 s60=>[]) (fun i60=>(4:Int).toNat - i60) 0 () h ⟨⟨.same O,.same O,.same O,G⟩,G,O⟩ ?_
     clear h
     intro i60 s60 hi60 K60 e60
     refine Jr fun hK61=>(JLh (BL (decide ((i60:Int) < 4))) (Jm O O O) O (G7 (hK61 (Js fun hK62=>Gm O (fun hb=>?_) (fun hb=>?_)))))
     ·
      have hk60:=Hf1 hb
      obtain⟨nx60,hn60,h⟩:=Hbb hi60 hk60
      replace h:=app3 hb60 h
      refine Gs (hK62 ?_)
      obtain⟨kj63,hkj63,h⟩:=Z8 h
      refine Ry (fun j63:Unit=>kj63 j63=some r) (fun j63=>[(14,.dptr [E7 s.Columns,E6 s.Covers,G0 s.Light.Kilos,G0 s.Light.X,G0 s.Light.Y,G0 s.Light.Z,E3 s.Rows,E4 s.Frames,E5 s.Tanks,G0 s.G2.Tolerance,G0 s.G2.Trim,G0 s.G2.List_,G0 s.G2.Stability,E2 boxes,E1 l,E0 open_,G0 x.Gb,G0 x.Slot.G3,G0 x.Slot.Tier,U8 x.Slot.Half]),(71,.agg [.bfn 39 [.agg [E7 s.Columns,E6 s.Covers,G0 s.Light.Kilos,G0 s.Light.X,G0 s.Light.Y,G0 s.Light.Z,E3 s.Rows,E4 s.Frames,E5 s.Tanks,G0 s.G2.Tolerance,G0 s.G2.Trim,G0 s.G2.List_,G0 s.G2.Stability,E2 boxes,E1 l,E0 open_,G0 x.Gb,G0 x.Slot.G3,G0 x.Slot.Tier,U8 x.Slot.Half]],.bfn 40 [.agg [E7 s.Columns,E6 s.Covers,G0 s.Light.Kilos,G0 s.Light.X,G0 s.Light.Y,G0 s.Light.Z,E3 s.Rows,E4 s.Frames,E5 s.Tanks,G0 s.G2.Tolerance,G0 s.G2.Trim,G0 s.G2.List_,G0 s.G2.Stability,E2 boxes,E1 l,E0 open_,G0 x.Gb,G0 x.Slot.G3,G0 x.Slot.Tier,U8 x.Slot.Half]],.bfn 41 [.agg [E7 s.Columns,E6 s.Covers,G0 s.Light.Kilos,G0 s.Light.X,G0 s.Light.Y,G0 s.Light.Z,E3 s.Rows,E4 s.Frames,E5 s.Tanks,G0 s.G2.Tolerance,G0 s.G2.Trim,G0 s.G2.List_,G0 s.G2.Stability,E2 boxes,E1 l,E0 open_,G0 x.Gb,G0 x.Slot.G3,G0 x.Slot.Tier,U8 x.Slot.Half]],.bfn 42 [.agg [E7 s.Columns,E6 s.Covers,G0 s.Light.Kilos,G0 s.Light.X,G0 s.Light.Y,G0 s.Light.Z,E3 s.Rows,E4 s.Frames,E5 s.Tanks,G0 s.G2.Tolerance,G0 s.G2.Trim,G0 s.G2.List_,G0 s.G2.Stability,E2 boxes,E1 l,E0 open_,G0 x.Gb,G0 x.Slot.G3,G0 x.Slot.Tier,U8 x.Slot.Half]]]),(72,Ej i60)]) (fun j63=>[]) (fun Kj63 ej63=>?_) ?_
      ·
       refine Gx (Jr fun hK64=>(Qk (Ej i60) O ((Decidable.em ((i60:Int)=0)).elim (fun hq65_0=>?_) (fun hq65_0=>?_))))
       ·
        replace h:=H6 (decide_eq_true hq65_0) h
        refine JLh (.bfn 39 [.agg [E7 s.Columns,E6 s.Covers,G0 s.Light.Kilos,G0 s.Light.X,G0 s.Light.Y,G0 s.Light.Z,E3 s.Rows,E4 s.Frames,E5 s.Tanks,G0 s.G2.Tolerance,G0 s.G2.Trim,G0 s.G2.List_,G0 s.G2.Stability,E2 boxes,E1 l,E0 open_,G0 x.Gb,G0 x.Slot.G3,G0 x.Slot.Tier,U8 x.Slot.Half]]) (H17 (j:=0) H09 O O O hq65_0 O O) O (Qk (Ej i60) O (Qk (.bfn 39 [.agg [E7 s.Columns,E6 s.Covers,G0 s.Light.Kilos,G0 s.Light.X,G0 s.Light.Y,G0 s.Light.Z,E3 s.Rows,E4 s.Frames,E5 s.Tanks,G0 s.G2.Tolerance,G0 s.G2.Trim,G0 s.G2.List_,G0 s.G2.Stability,E2 boxes,E1 l,E0 open_,G0 x.Gb,G0 x.Slot.G3,G0 x.Slot.Tier,U8 x.Slot.Half]]) O (G7 (hK64 ?_))))
        refine Jr fun hK66=>(Qk (.bfn 39 [.agg [E7 s.Columns,E6 s.Covers,G0 s.Light.Kilos,G0 s.Light.X,G0 s.Light.Y,G0 s.Light.Z,E3 s.Rows,E4 s.Frames,E5 s.Tanks,G0 s.G2.Tolerance,G0 s.G2.Trim,G0 s.G2.List_,G0 s.G2.Stability,E2 boxes,E1 l,E0 open_,G0 x.Gb,G0 x.Slot.G3,G0 x.Slot.Tier,U8 x.Slot.Half]]) O ?_)
        obtain⟨r67,hr67,h⟩:=Gf h
        refine JLh (BL r67) (H18 (args:=[]) (firsts:=[.agg [E7 s.Columns,E6 s.Covers,G0 s.Light.Kilos,G0 s.Light.X,G0 s.Light.Y,G0 s.Light.Z,E3 s.Rows,E4 s.Frames,E5 s.Tanks,G0 s.G2.Tolerance,G0 s.G2.Trim,G0 s.G2.List_,G0 s.G2.Stability,E2 boxes,E1 l,E0 open_,G0 x.Gb,G0 x.Slot.G3,G0 x.Slot.Tier,U8 x.Slot.Half]]) O O (Ge5 (Ha.mk s boxes l open_ x) r67 hr67) J74 G O) O (G7 (hK66 (JCc O h (fun h hb=>?_) (fun h hb=>?_))))
        ·
         refine Jr fun hK68=>(Qk (Ej i60) O ?_)
         obtain⟨v69,hv69,h⟩:=Je h
         refine JLh (G0 v69) (Hu hv69 O O O) O (JLh (E1 ([]:List Stowed)) (Hj 4 O O) O (Qk (G0 v69) O (G7 (hK68 (Gu (⟨[E1 ([]:List Stowed),G0 v69],[],G,O,⟨⟨_,O,.conv (.same O)⟩,⟨_,O,.conv (.same O)⟩,G⟩,O,congrArg (fun r:(List Stowed)×Int=>(.tup [E1 r.1,G0 r.2]:AV)) (Option.some.inj h)⟩))))))
        ·
         refine Gs (ej63 _ _ () h ⟨⟨.same O,.same O,.same O,G⟩,G,O⟩)
       ·
        replace h:=Hn (decide_eq_false hq65_0) h
        refine(Decidable.em ((i60:Int)=1)).elim (fun hq65_1=>?_) (fun hq65_1=>?_)
        ·
         replace h:=H6 (decide_eq_true hq65_1) h
         refine JLh (.bfn 40 [.agg [E7 s.Columns,E6 s.Covers,G0 s.Light.Kilos,G0 s.Light.X,G0 s.Light.Y,G0 s.Light.Z,E3 s.Rows,E4 s.Frames,E5 s.Tanks,G0 s.G2.Tolerance,G0 s.G2.Trim,G0 s.G2.List_,G0 s.G2.Stability,E2 boxes,E1 l,E0 open_,G0 x.Gb,G0 x.Slot.G3,G0 x.Slot.Tier,U8 x.Slot.Half]]) (H17 (j:=1) H09 O O O hq65_1 O O) O (Qk (Ej i60) O (Qk (.bfn 40 [.agg [E7 s.Columns,E6 s.Covers,G0 s.Light.Kilos,G0 s.Light.X,G0 s.Light.Y,G0 s.Light.Z,E3 s.Rows,E4 s.Frames,E5 s.Tanks,G0 s.G2.Tolerance,G0 s.G2.Trim,G0 s.G2.List_,G0 s.G2.Stability,E2 boxes,E1 l,E0 open_,G0 x.Gb,G0 x.Slot.G3,G0 x.Slot.Tier,U8 x.Slot.Half]]) O (G7 (hK64 ?_))))
         refine Jr fun hK70=>(Qk (.bfn 40 [.agg [E7 s.Columns,E6 s.Covers,G0 s.Light.Kilos,G0 s.Light.X,G0 s.Light.Y,G0 s.Light.Z,E3 s.Rows,E4 s.Frames,E5 s.Tanks,G0 s.G2.Tolerance,G0 s.G2.Trim,G0 s.G2.List_,G0 s.G2.Stability,E2 boxes,E1 l,E0 open_,G0 x.Gb,G0 x.Slot.G3,G0 x.Slot.Tier,U8 x.Slot.Half]]) O ?_)
         obtain⟨r71,hr71,h⟩:=Gf h
         refine JLh (BL r71) (H18 (args:=[]) (firsts:=[.agg [E7 s.Columns,E6 s.Covers,G0 s.Light.Kilos,G0 s.Light.X,G0 s.Light.Y,G0 s.Light.Z,E3 s.Rows,E4 s.Frames,E5 s.Tanks,G0 s.G2.Tolerance,G0 s.G2.Trim,G0 s.G2.List_,G0 s.G2.Stability,E2 boxes,E1 l,E0 open_,G0 x.Gb,G0 x.Slot.G3,G0 x.Slot.Tier,U8 x.Slot.Half]]) O O (H00 (Ha.mk s boxes l open_ x) r71 hr71) J73 G O) O (G7 (hK70 (JCc O h (fun h hb=>?_) (fun h hb=>?_))))
         ·
          refine Jr fun hK72=>(Qk (Ej i60) O ?_)
          obtain⟨v73,hv73,h⟩:=Je h
          refine JLh (G0 v73) (Hu hv73 O O O) O (JLh (E1 ([]:List Stowed)) (Hj 4 O O) O (Qk (G0 v73) O (G7 (hK72 (Gu (⟨[E1 ([]:List Stowed),G0 v73],[],G,O,⟨⟨_,O,.conv (.same O)⟩,⟨_,O,.conv (.same O)⟩,G⟩,O,congrArg (fun r:(List Stowed)×Int=>(.tup [E1 r.1,G0 r.2]:AV)) (Option.some.inj h)⟩))))))
         ·
          refine Gs (ej63 _ _ () h ⟨⟨.same O,.same O,.same O,G⟩,G,O⟩)
        ·
         replace h:=Hn (decide_eq_false hq65_1) h
         refine(Decidable.em ((i60:Int)=2)).elim (fun hq65_2=>?_) (fun hq65_2=>?_)
         ·
          replace h:=H6 (decide_eq_true hq65_2) h
          refine JLh (.bfn 41 [.agg [E7 s.Columns,E6 s.Covers,G0 s.Light.Kilos,G0 s.Light.X,G0 s.Light.Y,G0 s.Light.Z,E3 s.Rows,E4 s.Frames,E5 s.Tanks,G0 s.G2.Tolerance,G0 s.G2.Trim,G0 s.G2.List_,G0 s.G2.Stability,E2 boxes,E1 l,E0 open_,G0 x.Gb,G0 x.Slot.G3,G0 x.Slot.Tier,U8 x.Slot.Half]]) (H17 (j:=2) H09 O O O hq65_2 O O) O (Qk (Ej i60) O (Qk (.bfn 41 [.agg [E7 s.Columns,E6 s.Covers,G0 s.Light.Kilos,G0 s.Light.X,G0 s.Light.Y,G0 s.Light.Z,E3 s.Rows,E4 s.Frames,E5 s.Tanks,G0 s.G2.Tolerance,G0 s.G2.Trim,G0 s.G2.List_,G0 s.G2.Stability,E2 boxes,E1 l,E0 open_,G0 x.Gb,G0 x.Slot.G3,G0 x.Slot.Tier,U8 x.Slot.Half]]) O (G7 (hK64 ?_))))
          refine Jr fun hK74=>(Qk (.bfn 41 [.agg [E7 s.Columns,E6 s.Covers,G0 s.Light.Kilos,G0 s.Light.X,G0 s.Light.Y,G0 s.Light.Z,E3 s.Rows,E4 s.Frames,E5 s.Tanks,G0 s.G2.Tolerance,G0 s.G2.Trim,G0 s.G2.List_,G0 s.G2.Stability,E2 boxes,E1 l,E0 open_,G0 x.Gb,G0 x.Slot.G3,G0 x.Slot.Tier,U8 x.Slot.Half]]) O ?_)
          obtain⟨r75,hr75,h⟩:=Gf h
          refine JLh (BL r75) (H18 (args:=[]) (firsts:=[.agg [E7 s.Columns,E6 s.Covers,G0 s.Light.Kilos,G0 s.Light.X,G0 s.Light.Y,G0 s.Light.Z,E3 s.Rows,E4 s.Frames,E5 s.Tanks,G0 s.G2.Tolerance,G0 s.G2.Trim,G0 s.G2.List_,G0 s.G2.Stability,E2 boxes,E1 l,E0 open_,G0 x.Gb,G0 x.Slot.G3,G0 x.Slot.Tier,U8 x.Slot.Half]]) O O (Gdb (Ha.mk s boxes l open_ x) r75 hr75) J72 G O) O (G7 (hK74 (JCc O h (fun h hb=>?_) (fun h hb=>?_))))
          ·
           refine Jr fun hK76=>(Qk (Ej i60) O ?_)
           obtain⟨v77,hv77,h⟩:=Je h
           refine JLh (G0 v77) (Hu hv77 O O O) O (JLh (E1 ([]:List Stowed)) (Hj 4 O O) O (Qk (G0 v77) O (G7 (hK76 (Gu (⟨[E1 ([]:List Stowed),G0 v77],[],G,O,⟨⟨_,O,.conv (.same O)⟩,⟨_,O,.conv (.same O)⟩,G⟩,O,congrArg (fun r:(List Stowed)×Int=>(.tup [E1 r.1,G0 r.2]:AV)) (Option.some.inj h)⟩))))))
          ·
           refine Gs (ej63 _ _ () h ⟨⟨.same O,.same O,.same O,G⟩,G,O⟩)
         ·
          replace h:=Hn (decide_eq_false hq65_2) h
          refine(Decidable.em ((i60:Int)=3)).elim (fun hq65_3=>?_) (fun hq65_3=>?_)
          ·
           replace h:=H6 (decide_eq_true hq65_3) h
           refine JLh (.bfn 42 [.agg [E7 s.Columns,E6 s.Covers,G0 s.Light.Kilos,G0 s.Light.X,G0 s.Light.Y,G0 s.Light.Z,E3 s.Rows,E4 s.Frames,E5 s.Tanks,G0 s.G2.Tolerance,G0 s.G2.Trim,G0 s.G2.List_,G0 s.G2.Stability,E2 boxes,E1 l,E0 open_,G0 x.Gb,G0 x.Slot.G3,G0 x.Slot.Tier,U8 x.Slot.Half]]) (H17 (j:=3) H09 O O O hq65_3 O O) O (Qk (Ej i60) O (Qk (.bfn 42 [.agg [E7 s.Columns,E6 s.Covers,G0 s.Light.Kilos,G0 s.Light.X,G0 s.Light.Y,G0 s.Light.Z,E3 s.Rows,E4 s.Frames,E5 s.Tanks,G0 s.G2.Tolerance,G0 s.G2.Trim,G0 s.G2.List_,G0 s.G2.Stability,E2 boxes,E1 l,E0 open_,G0 x.Gb,G0 x.Slot.G3,G0 x.Slot.Tier,U8 x.Slot.Half]]) O (G7 (hK64 ?_))))
           refine Jr fun hK78=>(Qk (.bfn 42 [.agg [E7 s.Columns,E6 s.Covers,G0 s.Light.Kilos,G0 s.Light.X,G0 s.Light.Y,G0 s.Light.Z,E3 s.Rows,E4 s.Frames,E5 s.Tanks,G0 s.G2.Tolerance,G0 s.G2.Trim,G0 s.G2.List_,G0 s.G2.Stability,E2 boxes,E1 l,E0 open_,G0 x.Gb,G0 x.Slot.G3,G0 x.Slot.Tier,U8 x.Slot.Half]]) O ?_)
           obtain⟨r79,hr79,h⟩:=Gf h
           refine JLh (BL r79) (H18 (args:=[]) (firsts:=[.agg [E7 s.Columns,E6 s.Covers,G0 s.Light.Kilos,G0 s.Light.X,G0 s.Light.Y,G0 s.Light.Z,E3 s.Rows,E4 s.Frames,E5 s.Tanks,G0 s.G2.Tolerance,G0 s.G2.Trim,G0 s.G2.List_,G0 s.G2.Stability,E2 boxes,E1 l,E0 open_,G0 x.Gb,G0 x.Slot.G3,G0 x.Slot.Tier,U8 x.Slot.Half]]) O O (Ge6 F (Ha.mk s boxes l open_ x) r79 hr79) J71 G O) O (G7 (hK78 (JCc O h (fun h hb=>?_) (fun h hb=>?_))))
           ·
            refine Jr fun hK80=>(Qk (Ej i60) O ?_)
            obtain⟨v81,hv81,h⟩:=Je h
            refine JLh (G0 v81) (Hu hv81 O O O) O (JLh (E1 ([]:List Stowed)) (Hj 4 O O) O (Qk (G0 v81) O (G7 (hK80 (Gu (⟨[E1 ([]:List Stowed),G0 v81],[],G,O,⟨⟨_,O,.conv (.same O)⟩,⟨_,O,.conv (.same O)⟩,G⟩,O,congrArg (fun r:(List Stowed)×Int=>(.tup [E1 r.1,G0 r.2]:AV)) (Option.some.inj h)⟩))))))
           ·
            refine Gs (ej63 _ _ () h ⟨⟨.same O,.same O,.same O,G⟩,G,O⟩)
          ·
           replace h:=Hn (decide_eq_false hq65_3) h
           cases h
      ·intro j63 h
       replace h:=app1 hkj63 h
       refine G4 (JLh (G0 ((i60+1:Nat):Int)) (Hu (Hs hk60 (H6e hx60)) O O O) O (Qk (G0 ((i60+1:Nat):Int)) O (G7 (e60 _ _ (i60+1) () (app1 hn60 h) (by omega) ⟨⟨.same rfl,.same rfl,.same rfl,G⟩,G,rfl⟩))))
     ·
      have h:=app1 hkx60 (Hbc hi60 (Gd4 hb))
      refine J9 (hK18 (Jr fun hK82=>(JLh (.agg [E7 s.Columns,E6 s.Covers,G0 s.Light.Kilos,G0 s.Light.X,G0 s.Light.Y,G0 s.Light.Z,E3 s.Rows,E4 s.Frames,E5 s.Tanks,G0 s.G2.Tolerance,G0 s.G2.Trim,G0 s.G2.List_,G0 s.G2.Stability,E2 boxes,E1 l,E0 open_,G0 x.Gb,G0 x.Slot.G3,G0 x.Slot.Tier,U8 x.Slot.Half]) (Gj G78 O O O) O ?_)))
      obtain⟨r83,hr83,h⟩:=Gf h
      refine JLh (E1 r83) (Gv O (G25 F (Ha.mk s boxes l open_ x) r83 hr83) Hd8 ⟨O,O,G⟩) O (Qk (E1 r83) O (Qk (G0 0) O (G7 (hK82 (Gu (⟨[E1 r83,G0 0],[],G,O,⟨⟨_,O,.conv (.same O)⟩,⟨_,O,.conv (.same O)⟩,G⟩,O,congrArg (fun r:(List Stowed)×Int=>(.tup [E1 r.1,G0 r.2]:AV)) (Option.some.inj h)⟩))))))

def Jb (a:List Int) (b:List Int):Option Bool:=
 bif decide ((a.length:Int)≠(b.length:Int)) then
 (some false)
 else
 (each (fun y24 i24 (s24:Unit) nx24=>
   Yj b (i24:Int) fun y29=>
   bif decide (y24≠y29) then
   (some false)
   else
   (nx24 ()))
  (fun(s24:Unit)=>
   some true) a 0 ())
theorem Qw (a:List Int) (b:List Int) (r:Bool) (h:Jb a b=some r):Pure Ek 12 [E0 a,E0 b] (·=BL r):=by
 unfold Jb at h
 refine H1 [.tmp 4] Tryz.func12 O O (Jr fun hK1=>(Qk (BL false) O (G7 (hK1 (Js fun hK2=>Jr fun hK3=>(Qk (E0 a) O (JLl Gh O O O fun hm7=>(Qk (E0 b) O (JLl Gh O O O fun hm9=>(JLh (BL (decide ((a.length:Int)≠(b.length:Int)))) (H6a O O O) O (G7 (hK3 (JCc O h (fun h hb=>?_) (fun h hb=>?_))))))))))))))
 ·
  refine Jr fun hK4=>(Qk (BL false) O (G7 (hK4 (Gu (fin1 BL h)))))
 ·
  refine Gs (hK2 (Js fun hK5=>Jr fun hK6=>(Qk (G0 0) O (G7 (hK6 (Gx ?_))))))
  obtain⟨b24,kx24,hb24,hkx24,h⟩:=Jh h
  refine Hz (fun i24 (s24:Unit)=>each b24 kx24 (List.drop i24 a) i24 s24=some r) (fun i24 s24=>[(0,E0 a),(1,E0 b),(5,Ej i24)]) (fun i24 s24=>[]) (fun i24=>a.length - i24) 0 () h ⟨⟨.same O,.same O,.same O,G⟩,G,O⟩ ?_
  clear h
  intro i24 s24 hi24 K24 e24
  refine Js fun hK25=>Jr fun hK26=>(Qk (Ej i24) O (Qk (E0 a) O (JLl Gh O O O fun hm13=>(JLh (BL (decide ((i24:Int) < (a.length:Int)))) (Jm O O O) O (G7 (hK26 (Gm O (fun hb=>?_) (fun hb=>?_))))))))
  ·
   have hk24:=Q4 hb
   obtain⟨y24,nx24,hy24,hn24,h⟩:=J3 hi24 hk24
   replace h:=Zv hb24 h
   refine Gs (hK25 (Js fun hK27=>Gx (Js fun hK28=>?_)))
   obtain⟨m30,y29,hm30,hy29,h⟩:=Y6 h
   refine JC_d0 Qb (by kernel_rfl) (Dq (E0 a) (G6 O O) O (Dq (Ej i24) (G6 O O) O (Dq (.dptr [G0 y24]) (Hc (f:=G0) (xs:=a) (y:=y24) O O O Gh hy24 O) O (Dq (G0 y24) (Gi Ge O O O) O (Dq (E0 b) (G6 O O) O (Dq (Ej i24) (G6 O O) O (Dq (.dptr [G0 y29]) (Hc (f:=G0) (xs:=b) (y:=y29) O O O Gh hy29 hm30) O (Dq (G0 y29) (Gi Ge O O O) O (Dq (BL (decide (y24≠y29))) (H6a O O O) O (Dnil (hK28 (JCc O h (fun h hb=>?_) (fun h hb=>?_)))))))))))))
   ·
    refine Jr fun hK31=>(Qk (BL false) O (G7 (hK31 (Gu (fin1 BL h)))))
   ·
    refine Gs (hK27 (G4 (Qk (Ej i24) O (JLh (G0 ((i24+1:Nat):Int)) (Hu (Hs hk24 hm13) O O O) O (Qk (G0 ((i24+1:Nat):Int)) O (G7 (e24 _ _ (i24+1) () (app1 hn24 h) (by omega) ⟨⟨.same rfl,.same rfl,.same rfl,G⟩,G,rfl⟩)))))))
  ·
   have h:=app1 hkx24 (J4 hi24 (Hh hb))
   refine J9 (hK5 (Jr fun hK32=>(Qk (BL true) O (G7 (hK32 (Gu (fin1 BL h)))))))

def G55 (s:Gw) (boxes:List Gb) (l:List Stowed) (open_:List Int) (id_:Int):Option Int:=
 bnd (Qr s boxes l open_) fun r4=>
 bif (!r4) then
 (some 2)
 else
 (bnd (Y9 l id_) fun r7=>
  bif decide (r7.2≠0) then
  (some r7.2)
  else
  (bif decide (0 < (r7.1.length:Int)) then
   (some 90)
   else
   (bnd (Rr l id_) fun r15=>
    Yj l r15 fun y16=>
    bnd (Zy s y16.Slot.G3) fun r18=>
    bnd (bif decide (0≤r18) then Jq open_ r18 else some default) fun r20=>
    bif ((decide (0≤r18))&&(!r20)) then
    (some 91)
    else
    (some 0))))
theorem Gae (s:Gw) (boxes:List Gb) (l:List Stowed) (open_:List Int) (id_:Int) (r:Int) (h:G55 s boxes l open_ id_=some r):Pure Ek 15 [.agg (Gw.cs s),E2 boxes,E1 l,E0 open_,G0 id_] (·=G0 r):=by
 unfold G55 at h
 refine H1 [.tmp 10] Tryz.func15 O O (Jr fun hK1=>(JLh (.ptr 1027 0) (Jn (cs:=(Gw.cs s)) 1027 O O O O O) O (Qk (G0 0) O (G7 (hK1 (Gt [(1,E2 boxes),(2,E1 l),(3,E0 open_),(4,G0 id_),(5,Ec s)] [] 1027 rfl rfl rfl G rfl (by repeat' (first | exact .ptr | constructor)) ?_))))))
 refine Js fun hK2=>Jr fun hK3=>(JLh (.agg (Gw.cs s)) (Gj Hd O O O) O (Qk (E2 boxes) O (Qk (E1 l) O (Qk (E0 open_) O ?_))))
 obtain⟨r4,hr4,h⟩:=Gf h
 refine JLh (BL r4) (Gv O (Zz s boxes l open_ r4 hr4) Gcc ⟨O,O,O,O,O,O,O,O,G⟩) O (JLh (BL (!r4)) (Zn (b:=r4) O O) O (G7 (hK3 (JCc O h (fun h hb=>?_) (fun h hb=>?_)))))
 ·
  refine Jr fun hK5=>(Qk (G0 2) O (G7 (hK5 (Gu (fin1 G0 h)))))
 ·
  refine Gs (hK2 (Jr fun hK6=>(Qk (E1 l) O (Qk (G0 id_) O ?_))))
  obtain⟨r7,hr7,h⟩:=Gf h
  refine JLh (.tup [E0 r7.1,G0 r7.2]) (Gv O (G91 l id_ r7 hr7) H33 ⟨O,O,O,O,G⟩) O (Qk (.tup [E0 r7.1,G0 r7.2]) O (JLh (E0 r7.1) (H8 O O O) O (JLh (G0 r7.2) (H8 O O O) O (Qk (E0 r7.1) O (Qk (G0 r7.2) O (G7 (hK6 (Js fun hK8=>Gx (Jr fun hK9=>(Qk (G0 r7.2) O (JLh (BL (decide (r7.2≠0))) (H6a O O O) O (Qk (BL (decide (r7.2≠0))) O (G7 (hK9 (JCc O h (fun h hb=>?_) (fun h hb=>?_))))))))))))))))
  ·
   refine Jr fun hK10=>(Qk (G0 r7.2) O (Qk (G0 r7.2) O (G7 (hK10 (Gu (fin1 G0 h))))))
  ·
   refine Jr fun hK11=>(Qk (E0 r7.1) O (JLl Gh O O O fun hm32=>(JLh (BL (decide (0 < (r7.1.length:Int)))) (G67 O O O) O (Qk (BL (decide (0 < (r7.1.length:Int)))) O (G7 (hK11 (JCc O h (fun h hb=>?_) (fun h hb=>?_))))))))
   ·
    refine Jr fun hK12=>(Qk (G0 90) O (G7 (hK12 (Gu (fin1 G0 h)))))
   ·
    refine Gs (hK8 (Js fun hK13=>Js fun hK14=>?_))
    obtain⟨r15,hr15,h⟩:=Gf h
    obtain⟨m17,y16,hm17,hy16,h⟩:=Y6 h
    obtain⟨r18,hr18,h⟩:=Gf h
    refine JC_d0 Qb (by kernel_rfl) (Dq (.agg (Gw.cs s)) (Gj Hd O O O) O (Dq (E1 l) (G6 O O) O (Dq (E1 l) (G6 O O) O (Dq (G0 id_) (G6 O O) O (Dq (G0 r15) (Gv (args:=[E1 l,G0 id_]) O (G10 l id_ r15 hr15) G7f ⟨O,O,O,O,G⟩) O (Dq (Ed y16) (Hc (f:=Stowed.av) (xs:=l) (y:=y16) O O O H9 hy16 hm17) O (Dq (.dptr ((Stowed.cs y16).drop 1)) (Gc Hx O O O) O (Dq (.dptr ((Stowed.cs y16).drop 1)) (Gc Jc O O O) O (Dq (G0 y16.Slot.G3) (Gi Ge O O O) O (Dq (G0 r18) (Gv (args:=[.agg (Gw.cs s),G0 y16.Slot.G3]) O (H01 s y16.Slot.G3 r18 hr18) Hdb ⟨O,O,O,O,G⟩) O (Dq (G0 r18) (G8 O O) O (Dnil ?_))))))))))))
    refine hK14 (Jr fun hK19=>(Qk (G0 r18) O (JLh (BL (decide (0≤r18))) (G95 O O O) O (Qk (BL (decide (0≤r18))) O (JLo (E0 open_) [] O .sct G (fun hc=>G6 O O) O (JLo (G0 r18) [] O .sct G (fun hc=>G6 O O) O ?_))))))
    obtain⟨r20,hr20,h⟩:=Gf h
    refine JLo (BL r20) [47,48] O .sct ⟨Ua,Ua,G⟩ (fun hc=>Gv (args:=[E0 open_,G0 r18]) O (Yp open_ r18 r20 (H6 hc hr20)) H2f ⟨O,O,O,O,G⟩) O (JLo (BL (!r20)) [49] O .sct ⟨Ua,G⟩ (fun hc=>Zn (b:=r20) O O) O (JLh (BL ((decide (0≤r18))&&(!r20))) (Qi O O O O) O (G7 (hK19 (JCc O h (fun h hb=>?_) (fun h hb=>?_))))))
    ·
     refine Jr fun hK21=>(Qk (G0 91) O (G7 (hK21 (Gu (fin1 G0 h)))))
    ·
     refine Gs (hK13 (Jr fun hK22=>(Qk (G0 0) O (G7 (hK22 (Gu (fin1 G0 h)))))))
end
end Go.Proofs.YtbljcmgjmieffaaGreat
