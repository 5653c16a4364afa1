/-
 Models of functions of the program,and that they return what the models say.
-/
import Derived.Test.YtbljcmgjmieffaaGreatXB
set_option linter.unnecessarySimpa false
set_option maxRecDepth 100000
set_option linter.unusedVariables false
set_option linter.unusedSimpArgs false
namespace Go.Proofs.YtbljcmgjmieffaaGreat
open Go.RowKit
noncomputable section
structure Gg where
 G3:Int
 Kilos:Int
 Small:Bool
 High:Bool
 deriving DecidableEq,Inhabited
def Gg.cs (x:Gg):List AV:=[U8 x.G3,U8 x.Kilos,BL x.Small,BL x.High]
def Gg.av (x:Gg):AV:=.agg x.cs
abbrev Eg (x:Gg):AV:=.dptr (Gg.cs x)
abbrev Ea:=LS 4 Gg.av
structure Hd where
 s:Gt
 boxes:List Ga
 l:List Stowed
 open_:List Int
 x:Stowed
 deriving DecidableEq,Inhabited
def Hd.cs (x:Hd):List AV:=[E7 x.s.Columns,E3 x.s.Covers,G0 x.s.Light.Kilos,G0 x.s.Light.X,G0 x.s.Light.Y,G0 x.s.Light.Z,E4 x.s.Rows,E5 x.s.Frames,E6 x.s.Tanks,G0 x.s.G2.Tolerance,G0 x.s.G2.Trim,G0 x.s.G2.List_,G0 x.s.G2.Stability,E2 x.boxes,E1 x.l,E0 x.open_,G0 x.x.Ga,G0 x.x.Slot.G3,G0 x.x.Slot.Tier,U8 x.x.Slot.Half]
def Hd.av (x:Hd):AV:=.agg x.cs
abbrev Ef (x:Hd):AV:=.dptr (Hd.cs x)
namespace XPF
open XAF
open XCF
open XGF
open XBF
theorem J69:G99 Ek 58 4=true:=by kernel_rfl
theorem Gaf:G99 Ek 98 20=true:=by kernel_rfl
theorem H3e:arr1B Ek 99 4=true:=by kernel_rfl
theorem tf_arr_99:arrB Ek 99 42 1=true:=by kernel_rfl
theorem G4f:Hf Ek 10=true:=by kernel_rfl
theorem G75:Hf Ek 12=true:=by kernel_rfl
theorem H01:Hf Ek 13=true:=by kernel_rfl
theorem G4e:Hf Ek 15=true:=by kernel_rfl
theorem G74:Hf Ek 16=true:=by kernel_rfl
theorem G04:Hf Ek 21=true:=by kernel_rfl
theorem J22:Hf Ek 23=true:=by kernel_rfl
theorem Jbf:Hf Ek 24=true:=by kernel_rfl
theorem J1f:Hf Ek 32=true:=by kernel_rfl
theorem J1e:Hf Ek 33=true:=by kernel_rfl
theorem Jbc:Hf Ek 34=true:=by kernel_rfl
theorem Jba:Hf Ek 39=true:=by kernel_rfl
theorem Jb9:Hf Ek 40=true:=by kernel_rfl
theorem Jb8:Hf Ek 41=true:=by kernel_rfl
theorem Jb7:Hf Ek 42=true:=by kernel_rfl
theorem J1c:Hf Ek 43=true:=by kernel_rfl
theorem Jb3:Hf Ek 51=true:=by kernel_rfl
theorem Jb0:Hf Ek 59=true:=by kernel_rfl
theorem J14:Hf Ek 60=true:=by kernel_rfl
theorem Jab:Hf Ek 69=true:=by kernel_rfl
theorem Ha9:Hf Ek 7=true:=by kernel_rfl
theorem Jaa:Hf Ek 70=true:=by kernel_rfl
theorem Ja9:Hf Ek 71=true:=by kernel_rfl
theorem Ja5:Hf Ek 79=true:=by kernel_rfl
theorem Ha8:Hf Ek 8=true:=by kernel_rfl
theorem G71:Hf Ek 9=true:=by kernel_rfl
theorem J0f:Hf Ek 94=true:=by kernel_rfl
theorem H00:Ru Ek 67 9 64=true:=by kernel_rfl
theorem Gdd:Jo Ek 58 0 0=true:=by kernel_rfl
theorem G3d:Jo Ek 58 1 1=true:=by kernel_rfl
theorem Gdc:Jo Ek 58 2 2=true:=by kernel_rfl
theorem Gdb:Jo Ek 58 3 3=true:=by kernel_rfl
theorem Gda:Jo Ek 98 0 0=true:=by kernel_rfl
theorem J65:Jo Ek 98 1 13=true:=by kernel_rfl
theorem G3c:Jo Ek 98 2 14=true:=by kernel_rfl
theorem J64:Jo Ek 98 3 15=true:=by kernel_rfl
theorem G0d:Jo Ek 98 4 16=true:=by kernel_rfl
theorem J05:H91 Ek 117 .u64=true:=by kernel_rfl
theorem J74:placesOf Ek 36=some [(0,1),(1,1),(2,4),(6,1),(7,1),(8,1),(9,4)]:=by kernel_rfl
theorem Z6:placesOf Ek 47=some [(0,1),(1,3)]:=by kernel_rfl
theorem J72:placesOf Ek 98=some [(0,13),(13,1),(14,1),(15,1),(16,4)]:=by kernel_rfl
theorem J71:Rb Ek 38=true:=by kernel_rfl
theorem Ha5:R7 Ek 4 1=true:=by kernel_rfl
theorem H3d:R7 Ek 5 1=true:=by kernel_rfl
theorem J02:R7 Ek 58 4=true:=by kernel_rfl
theorem J9e:R7 Ek 76 1=true:=by kernel_rfl
theorem J9a:R7 Ek 98 20=true:=by kernel_rfl
theorem G00:sliceB Ek 24 58 4=true:=by kernel_rfl
theorem G02:(Ek.info? 47).bind (fun i=>i.zero.map Value.cells)=some (List.toArray [.int .i64 0,.int .i64 0,.int .i64 0,.int .u8 0]):=by kernel_rfl
theorem J99:(Ek.info? 76).bind (fun i=>i.zero.map Value.cells)=some (List.toArray [.slice none 0 0]):=by kernel_rfl
theorem J97:(Ek.info? 98).bind (fun i=>i.zero.map Value.cells)=some (List.toArray [.slice none 0 0,.slice none 0 0,.int .i64 0,.int .i64 0,.int .i64 0,.int .i64 0,.slice none 0 0,.slice none 0 0,.slice none 0 0,.int .i64 0,.int .i64 0,.int .i64 0,.int .i64 0,.slice none 0 0,.slice none 0 0,.slice none 0 0,.int .i64 0,.int .i64 0,.int .i64 0,.int .u8 0]):=by kernel_rfl
theorem J96:(Ek.info? 99).bind (fun i=>i.zero.map Value.cells)=some (List.toArray [.nilFunc,.nilFunc,.nilFunc,.nilFunc]):=by kernel_rfl
theorem Hc4:Qv Ek 58 4=true:=by kernel_rfl
theorem J79:Qv Ek 98 20=true:=by kernel_rfl
end XPF
open XAF
open XCF
open XGF
open XBF
open XPF

def Ga8 (s:Gt) (size:Int):Option Unit:=
 some ()
theorem J53 (s:Gt) (size:Int) (r:Unit) (h:Ga8 s size=some r):Pure Ek 51 [.agg (Gt.cs s),U8 size] (·=.fn 79 [.dptr (Gt.cs s),.dptr [U8 size]]):=by
 unfold Ga8 at h
 refine H5 [.tmp 4] Tryz.func51 O O (Jr fun hK1=>(JLh (.ptr 1099 0) (Q1 (cs:=(Gt.cs s)) 1099 O O O O O) O (JLh (.ptr 1100 0) (Q1 (cs:=[U8 size]) 1100 O O O O O) O (Rc (.sc .nilFunc) O (G7 (hK1 ?_))))))
 refine Gs [(2,Ec s),(3,.ptr 1100 0)] [(1100,.box 5 [U8 size])] 1099 rfl rfl rfl ⟨⟨_,rfl,.boxEq rfl rfl⟩,G⟩ rfl (by exact⟨.ptr,.conv (.same rfl),G⟩) (Gs [(2,Ec s),(3,.dptr [U8 size])] [] 1100 rfl rfl rfl G rfl (by exact⟨.conv (.same rfl),.ptr,G⟩) ?_)
 refine Jr fun hK2=>(JLh (.fn 79 [.dptr (Gt.cs s),.dptr [U8 size]]) (Z5 (cs:=[.dptr (Gt.cs s),.dptr [U8 size]]) O O) O (Rc (.fn 79 [.dptr (Gt.cs s),.dptr [U8 size]]) O (G7 (hK2 ?_))))
 refine Gv (⟨[.fn 79 [.dptr (Gt.cs s),.dptr [U8 size]]],[],G,O,⟨⟨_,O,.conv (.same O)⟩,G⟩,O,congrArg (fun _:Unit=>(.fn 79 [.dptr (Gt.cs s),.dptr [U8 size]]:AV)) (Option.some.inj h)⟩)

def Gc5 (s:Gt) (size:Int):Option (List Slot):=
 bnd (Ga8 s size) fun r5=>
 bnd (G65 s size) fun ys8=>
 each (fun y8 i8 (s8:(List Slot)) nx8=>
  need (decide ((s8.length+[y8].length)*24≤140737488355328∧s8.length+[y8].length≤maxLen)) <|
  nx8 (s8++[y8]))
 (fun(s8:(List Slot))=>
  some s8) ys8 0 []
theorem H9b (s:Gt) (size:Int) (r:(List Slot)) (h:Gc5 s size=some r):Pure Ek 23 [.agg (Gt.cs s),U8 size] (·=E8 r):=by
 unfold Gc5 at h
 refine H5 [.tmp 4] Tryz.func23 O O (Jr fun hK1=>(JLh (.ptr 1059 0) (Q1 (cs:=(Gt.cs s)) 1059 O O O O O) O (JLh (E8 ([]:List Slot)) (Hi 3 O O) O (G7 (hK1 (Gs [(1,U8 size),(2,Ec s)] [] 1059 rfl rfl rfl G rfl (by exact⟨.conv (.same rfl),.ptr,G⟩) ?_))))))
 refine Jr fun hK2=>(JLh (.ptr 1060 0) (Gc8 1060 [.sc (.slice none 0 0)] [.slice none 0 0] J99 ⟨.inl O,G⟩ O O) O (J59 1060 0 1062 45 3 O O O (cs':=[OW 1062 3 Slot.av ([]:List Slot)]) O (G7 (hK2 (Js fun hK3=>Jr fun hK4=>(JLh (.agg (Gt.cs s)) (Gh H7 O O O) O (Rc (U8 size) O ?_)))))))
 obtain⟨r5,hr5,h⟩:=Gf h
 refine JLh (.fn 79 [.dptr (Gt.cs s),.dptr [U8 size]]) (Gu O (J53 s size r5 hr5) Jb3 ⟨O,O,O,O,G⟩) O (G7 (hK4 (Gx ?_)))
 obtain⟨ys8,hy_8,h⟩:=Gf h
 obtain⟨b8,kx8,hb8,hkx8,h⟩:=Jh h
 refine J76 (ps:=[10]) [(5,.ptr 1060 0),(9,.fn 79 [.dptr (Gt.cs s),.dptr [U8 size]])] (ys8.map (fun y:Slot=>[.agg [G0 y.G3,G0 y.Tier,U8 y.Half]])) (fun i8 (s8:(List Slot))=>each b8 kx8 (List.drop i8 ys8) i8 s8=some r) (fun s8=>[(1062,.spare 45 3 s8.length s8.length),(1060,.box 76 [OW 1062 3 Slot.av s8])]) [] rfl rfl rfl Ja5 (Hb9.down s size ys8 hy_8) h ⟨⟨.same rfl,.same rfl,trivial⟩,⟨⟨_,rfl,.same⟩,⟨_,rfl,.boxL rfl ⟨.same rfl,trivial⟩⟩,trivial⟩,rfl⟩ rfl (fun us_ hus_=>by obtain⟨_,_,rfl⟩:=List.mem_map.1 hus_; rfl) (fun p_ hp_=>Nat.blt_eq.mp (by revert p_; decide)) (fun _=>⟨.same rfl,.same rfl,trivial⟩) (fun _=>rfl) ?_ ?_
 ·
  intro i8 us_ s8 hu_ hi8 lr_ K8 e8
  obtain⟨hk8,rfl⟩:=mapf_at hu_
  obtain⟨y8,nx8,hy8,hn8,h⟩:=J1 hi8 hk8
  replace h:=Zj hb8 h
  obtain⟨_,rfl⟩:=List.getElem?_eq_some_iff.1 hy8
  generalize ys8[i8]=y8 at h ⊢
  change JC _ _ _ _ [(10,.agg [G0 y8.G3,G0 y8.Tier,U8 y8.Half]),(5,.ptr 1060 0),(9,.fn 79 [.dptr (Gt.cs s),.dptr [U8 size]])] [(1062,.spare 45 3 s8.length s8.length),(1060,.box 76 [OW 1062 3 Slot.av s8])]
  refine G4 (JLh (.ptr 1061 0) (Hs 1061 3 G51 O O) O (J0 (u:=.junk) (Hh (u:=.agg [G0 y8.G3,G0 y8.Tier,U8 y8.Half]) (ds:=[G0 y8.G3,G0 y8.Tier,U8 y8.Half]) Gfb O O O O O O O O) (G7 (Mid_freeze [(5,.ptr 1060 0),(6,.dptr [G0 y8.G3,G0 y8.Tier,U8 y8.Half])] [(1062,.spare 45 3 s8.length s8.length),(1060,.box 76 [OW 1062 3 Slot.av s8])] 1061 rfl rfl rfl ⟨⟨_,rfl,.same⟩,⟨_,rfl,.boxEq rfl rfl⟩,G⟩ rfl (by exact⟨.conv (.same rfl),.ptr,G⟩) (Mid_go (Gx (G4 (JLh (OW 1062 3 Slot.av s8) (Y3 Gfe O O O O) O (JLh (.agg [G0 y8.G3,G0 y8.Tier,U8 y8.Half]) (Gh Q4 O O O) O (JLh (E8 [y8]) (H6 (xs:=[.agg [G0 y8.G3,G0 y8.Tier,U8 y8.Half]]) O ⟨O,O,G⟩ R6 G51 O O O O) O ?_))))))))))
  obtain⟨ha9,h⟩:=Jk h
  refine JLh (OW 1062 3 Slot.av (s8++[y8])) (Ro (f:=Slot.av) (xs:=s8) (ys:=[y8]) O O O O R6 J0d ha9 (fun _=>O) (.inl O) O) O (J0 (u:=.junk) (Hh (u:=OW 1062 3 Slot.av (s8++[y8])) (ds:=[OW 1062 3 Slot.av (s8++[y8])]) J9e O O O O O O O O) (G7 (e8 _ _ (s8++[y8]) (app1 hn8 h) ⟨G,⟨⟨_,O,.same⟩,⟨_,O,.boxL O ⟨.same O,G⟩⟩,G⟩,O⟩)))
 ·
  intro s8 h
  rw [List.length_map] at h
  replace h:=app1 hkx8 (J2 h (Nat.lt_irrefl _))
  refine hK3 (Jr fun hK10=>(JLh (OW 1062 3 Slot.av s8) (Y3 Gfe O O O O) O (Rc (OW 1062 3 Slot.av s8) O (G7 (hK10 (Rn (l':=[(4,E8 s8)]) (L':=[(1060,.box 76 [E8 s8])]) ⟨⟨.list O,G⟩,⟨⟨_,O,.boxL O ⟨.list O,G⟩⟩,G⟩,O⟩ (Gs [(4,E8 s8)] [] 1060 rfl rfl rfl G rfl (by exact⟨.conv (.same rfl),G⟩) (Gv (fin1 (fun r:(List Slot)=>(E8 r:AV)) h)))))))))

def Jm (s:Gt) (l:List Gg) (most:Int):Option ((List Ga)×(List Stowed)):=
 bnd (H15 (min (l.length:Int) most) l.length) fun m6=>
 each (fun y7 i7 (s7:(List Ga)×(List Stowed)) nx7=>
  jp (fun kj10=>
   G08 (5*((i7+1:Nat):Int)) fun v13=>
   G08 (y7.Kilos) fun v14=>
   G08 (100*v14) fun v15=>
   G08 (1000+v15) fun v16=>
   jp (fun kj17=>
    bif y7.Small then
    (kj17 (20,false))
    else
    (kj17 (40,y7.High))) fun(j17:Int×Bool)=>
   need (decide ((s7.1.length+[(Ga.mk v13 ByteArray.empty j17.1 j17.2 v16 0 1 0 false)].length)*64≤140737488355328∧s7.1.length+[(Ga.mk v13 ByteArray.empty j17.1 j17.2 v16 0 1 0 false)].length≤maxLen)) <|
   bnd (Gc5 s j17.1) fun r22=>
   each (fun y49 i49 (s49:(List Stowed)) nx49=>
    need (decide ((([]:List Stowed).length+s49.length)*32≤140737488355328∧([]:List Stowed).length+s49.length≤maxLen)) <|
    need (decide (((([]:List Stowed)++s49).length+[(Stowed.mk v13 y49)].length)*32≤140737488355328∧(([]:List Stowed)++s49).length+[(Stowed.mk v13 y49)].length≤maxLen)) <|
    G08 (y7.G3) fun v58=>
    bnd (Gd1 v58 (s.Columns.length:Int)) fun v59=>
    bnd (bif decide (y49.G3=v59) then Rj s (s7.1++[(Ga.mk v13 ByteArray.empty j17.1 j17.2 v16 0 1 0 false)]) ((([]:List Stowed)++s49)++[(Stowed.mk v13 y49)]) else some default) fun r60=>
    bif ((decide (y49.G3=v59))&&r60) then
    (kj10 ((s7.1++[(Ga.mk v13 ByteArray.empty j17.1 j17.2 v16 0 1 0 false)]),((([]:List Stowed)++s49)++[(Stowed.mk v13 y49)])))
    else
    (nx49 s49))
   (fun(s49:(List Stowed))=>
    kj10 ((s7.1++[(Ga.mk v13 ByteArray.empty j17.1 j17.2 v16 0 1 0 false)]),s49)) r22 0 s7.2) fun(j10:(List Ga)×(List Stowed))=>
  nx7 (j10.1,j10.2))
 (fun(s7:(List Ga)×(List Stowed))=>
  some (s7.1,s7.2)) (l.take m6) 0 ([],[])
def Zk :Option Gt:=
 some (Gt.mk ([(G3.mk 0 0 false 2 0 0 0 0 [] 0 0 0),(G3.mk 0 1 false 2 0 0 0 0 [] 0 0 0),(G3.mk 0 0 true 3 0 0 0 0 [] 0 0 0),(G3.mk 0 1 true 3 0 0 0 0 [] 0 0 0),(G3.mk 1 1 true 4 0 0 0 0 [] 0 0 0)]) ([(G9.mk 0 [0,1])]) (Light.mk 0 0 0 0) [] [] [] (G2.mk 0 0 0 0))
theorem Gc3  (r:Gt) (h:Zk =some r):Pure Ek 24 [] (·=.agg (Gt.cs r)):=by
 unfold Zk at h
 refine H5 [.cell 0 36] Tryz.func24 O O (Jr fun hK1=>(JLh (.ptr 1063 0) (Gc8 1063 [E7 ([]:List G3),E3 ([]:List G9),G0 0,G0 0,G0 0,G0 0,E4 ([]:List Row),E5 ([]:List Frame),E6 ([]:List Gm),G0 0,G0 0,G0 0,G0 0] [.slice none 0 0,.slice none 0 0,.int .i64 0,.int .i64 0,.int .i64 0,.int .i64 0,.slice none 0 0,.slice none 0 0,.slice none 0 0,.int .i64 0,.int .i64 0,.int .i64 0,.int .i64 0] Gb2 ⟨.inr ⟨_,O,O⟩,.inr ⟨_,O,O⟩,.inl O,.inl O,.inl O,.inl O,.inr ⟨_,O,O⟩,.inr ⟨_,O,O⟩,.inr ⟨_,O,O⟩,.inl O,.inl O,.inl O,.inl O,G⟩ O O) O (G7 (hK1 ?_))))
 refine Jr fun hK2=>(JLh (.agg [G0 0,G0 0,BL false,G0 2,G0 0,G0 0,G0 0,G0 0,E0 ([]:List Int),G0 0,G0 0,G0 0]) (Hp (cs:=[G0 0,G0 0,BL false,G0 2,G0 0,G0 0,G0 0,G0 0,E0 ([]:List Int),G0 0,G0 0,G0 0]) [(0,1),(1,1),(2,1),(3,1),(4,1),(5,1),(6,1),(7,1),(8,1),(9,1),(10,1),(11,1)] [G0 0,G0 0,BL false,G0 0,G0 0,G0 0,G0 0,G0 0,E0 ([]:List Int),G0 0,G0 0,G0 0] [.int .i64 0,.int .i64 0,.bool false,.int .i64 0,.int .i64 0,.int .i64 0,.int .i64 0,.int .i64 0,.slice none 0 0,.int .i64 0,.int .i64 0,.int .i64 0] G03 G4b ⟨.inl O,.inl O,.inl O,.inl O,.inl O,.inl O,.inl O,.inl O,.inr ⟨_,O,O⟩,.inl O,.inl O,.inl O,G⟩ O O) O (JLh (.agg [G0 0,G0 1,BL false,G0 2,G0 0,G0 0,G0 0,G0 0,E0 ([]:List Int),G0 0,G0 0,G0 0]) (Hp (cs:=[G0 0,G0 1,BL false,G0 2,G0 0,G0 0,G0 0,G0 0,E0 ([]:List Int),G0 0,G0 0,G0 0]) [(0,1),(1,1),(2,1),(3,1),(4,1),(5,1),(6,1),(7,1),(8,1),(9,1),(10,1),(11,1)] [G0 0,G0 0,BL false,G0 0,G0 0,G0 0,G0 0,G0 0,E0 ([]:List Int),G0 0,G0 0,G0 0] [.int .i64 0,.int .i64 0,.bool false,.int .i64 0,.int .i64 0,.int .i64 0,.int .i64 0,.int .i64 0,.slice none 0 0,.int .i64 0,.int .i64 0,.int .i64 0] G03 G4b ⟨.inl O,.inl O,.inl O,.inl O,.inl O,.inl O,.inl O,.inl O,.inr ⟨_,O,O⟩,.inl O,.inl O,.inl O,G⟩ O O) O (JLh (.agg [G0 0,G0 0,BL true,G0 3,G0 0,G0 0,G0 0,G0 0,E0 ([]:List Int),G0 0,G0 0,G0 0]) (Hp (cs:=[G0 0,G0 0,BL true,G0 3,G0 0,G0 0,G0 0,G0 0,E0 ([]:List Int),G0 0,G0 0,G0 0]) [(0,1),(1,1),(2,1),(3,1),(4,1),(5,1),(6,1),(7,1),(8,1),(9,1),(10,1),(11,1)] [G0 0,G0 0,BL false,G0 0,G0 0,G0 0,G0 0,G0 0,E0 ([]:List Int),G0 0,G0 0,G0 0] [.int .i64 0,.int .i64 0,.bool false,.int .i64 0,.int .i64 0,.int .i64 0,.int .i64 0,.int .i64 0,.slice none 0 0,.int .i64 0,.int .i64 0,.int .i64 0] G03 G4b ⟨.inl O,.inl O,.inl O,.inl O,.inl O,.inl O,.inl O,.inl O,.inr ⟨_,O,O⟩,.inl O,.inl O,.inl O,G⟩ O O) O (JLh (.agg [G0 0,G0 1,BL true,G0 3,G0 0,G0 0,G0 0,G0 0,E0 ([]:List Int),G0 0,G0 0,G0 0]) (Hp (cs:=[G0 0,G0 1,BL true,G0 3,G0 0,G0 0,G0 0,G0 0,E0 ([]:List Int),G0 0,G0 0,G0 0]) [(0,1),(1,1),(2,1),(3,1),(4,1),(5,1),(6,1),(7,1),(8,1),(9,1),(10,1),(11,1)] [G0 0,G0 0,BL false,G0 0,G0 0,G0 0,G0 0,G0 0,E0 ([]:List Int),G0 0,G0 0,G0 0] [.int .i64 0,.int .i64 0,.bool false,.int .i64 0,.int .i64 0,.int .i64 0,.int .i64 0,.int .i64 0,.slice none 0 0,.int .i64 0,.int .i64 0,.int .i64 0] G03 G4b ⟨.inl O,.inl O,.inl O,.inl O,.inl O,.inl O,.inl O,.inl O,.inr ⟨_,O,O⟩,.inl O,.inl O,.inl O,G⟩ O O) O (JLh (.agg [G0 1,G0 1,BL true,G0 4,G0 0,G0 0,G0 0,G0 0,E0 ([]:List Int),G0 0,G0 0,G0 0]) (Hp (cs:=[G0 1,G0 1,BL true,G0 4,G0 0,G0 0,G0 0,G0 0,E0 ([]:List Int),G0 0,G0 0,G0 0]) [(0,1),(1,1),(2,1),(3,1),(4,1),(5,1),(6,1),(7,1),(8,1),(9,1),(10,1),(11,1)] [G0 0,G0 0,BL false,G0 0,G0 0,G0 0,G0 0,G0 0,E0 ([]:List Int),G0 0,G0 0,G0 0] [.int .i64 0,.int .i64 0,.bool false,.int .i64 0,.int .i64 0,.int .i64 0,.int .i64 0,.int .i64 0,.slice none 0 0,.int .i64 0,.int .i64 0,.int .i64 0] G03 G4b ⟨.inl O,.inl O,.inl O,.inl O,.inl O,.inl O,.inl O,.inl O,.inr ⟨_,O,O⟩,.inl O,.inl O,.inl O,G⟩ O O) O (JLh (E7 ([(G3.mk 0 0 false 2 0 0 0 0 [] 0 0 0),(G3.mk 0 1 false 2 0 0 0 0 [] 0 0 0),(G3.mk 0 0 true 3 0 0 0 0 [] 0 0 0),(G3.mk 0 1 true 3 0 0 0 0 [] 0 0 0),(G3.mk 1 1 true 4 0 0 0 0 [] 0 0 0)])) (H6 (xs:=[.agg [G0 0,G0 0,BL false,G0 2,G0 0,G0 0,G0 0,G0 0,E0 ([]:List Int),G0 0,G0 0,G0 0],.agg [G0 0,G0 1,BL false,G0 2,G0 0,G0 0,G0 0,G0 0,E0 ([]:List Int),G0 0,G0 0,G0 0],.agg [G0 0,G0 0,BL true,G0 3,G0 0,G0 0,G0 0,G0 0,E0 ([]:List Int),G0 0,G0 0,G0 0],.agg [G0 0,G0 1,BL true,G0 3,G0 0,G0 0,G0 0,G0 0,E0 ([]:List Int),G0 0,G0 0,G0 0],.agg [G0 1,G0 1,BL true,G0 4,G0 0,G0 0,G0 0,G0 0,E0 ([]:List Int),G0 0,G0 0,G0 0]]) O ⟨O,O,O,O,O,O,O,O,O,O,G⟩ Hq Yp O O O O) O (JLh (E0 [0,1]) (H6 (xs:=[G0 0,G0 1]) O ⟨O,O,O,O,G⟩ Gq Ju O O O O) O (JLh (.agg [G0 0,E0 [0,1]]) (Hp (cs:=[G0 0,E0 [0,1]]) [(0,1),(1,1)] [G0 0,E0 ([]:List Int)] [.int .i64 0,.slice none 0 0] Gff H5e ⟨.inl O,.inr ⟨_,O,O⟩,G⟩ O O) O (JLh (E3 ([(G9.mk 0 [0,1])])) (H6 (xs:=[.agg [G0 0,E0 [0,1]]]) O ⟨O,O,G⟩ J8 G88 O O O O) O (JLh (.agg [E7 ([(G3.mk 0 0 false 2 0 0 0 0 [] 0 0 0),(G3.mk 0 1 false 2 0 0 0 0 [] 0 0 0),(G3.mk 0 0 true 3 0 0 0 0 [] 0 0 0),(G3.mk 0 1 true 3 0 0 0 0 [] 0 0 0),(G3.mk 1 1 true 4 0 0 0 0 [] 0 0 0)]),E3 ([(G9.mk 0 [0,1])]),G0 0,G0 0,G0 0,G0 0,E4 ([]:List Row),E5 ([]:List Frame),E6 ([]:List Gm),G0 0,G0 0,G0 0,G0 0]) (Hp (cs:=[E7 ([(G3.mk 0 0 false 2 0 0 0 0 [] 0 0 0),(G3.mk 0 1 false 2 0 0 0 0 [] 0 0 0),(G3.mk 0 0 true 3 0 0 0 0 [] 0 0 0),(G3.mk 0 1 true 3 0 0 0 0 [] 0 0 0),(G3.mk 1 1 true 4 0 0 0 0 [] 0 0 0)]),E3 ([(G9.mk 0 [0,1])]),G0 0,G0 0,G0 0,G0 0,E4 ([]:List Row),E5 ([]:List Frame),E6 ([]:List Gm),G0 0,G0 0,G0 0,G0 0]) [(0,1),(1,1),(2,4),(6,1),(7,1),(8,1),(9,4)] [E7 ([]:List G3),E3 ([]:List G9),G0 0,G0 0,G0 0,G0 0,E4 ([]:List Row),E5 ([]:List Frame),E6 ([]:List Gm),G0 0,G0 0,G0 0,G0 0] [.slice none 0 0,.slice none 0 0,.int .i64 0,.int .i64 0,.int .i64 0,.int .i64 0,.slice none 0 0,.slice none 0 0,.slice none 0 0,.int .i64 0,.int .i64 0,.int .i64 0,.int .i64 0] J74 Gb2 ⟨.inr ⟨_,O,O⟩,.inr ⟨_,O,O⟩,.inl O,.inl O,.inl O,.inl O,.inr ⟨_,O,O⟩,.inr ⟨_,O,O⟩,.inr ⟨_,O,O⟩,.inl O,.inl O,.inl O,.inl O,G⟩ O O) O (J0 (u:=.junk) (Hh (u:=.agg [E7 ([(G3.mk 0 0 false 2 0 0 0 0 [] 0 0 0),(G3.mk 0 1 false 2 0 0 0 0 [] 0 0 0),(G3.mk 0 0 true 3 0 0 0 0 [] 0 0 0),(G3.mk 0 1 true 3 0 0 0 0 [] 0 0 0),(G3.mk 1 1 true 4 0 0 0 0 [] 0 0 0)]),E3 ([(G9.mk 0 [0,1])]),G0 0,G0 0,G0 0,G0 0,E4 ([]:List Row),E5 ([]:List Frame),E6 ([]:List Gm),G0 0,G0 0,G0 0,G0 0]) (ds:=[E7 ([(G3.mk 0 0 false 2 0 0 0 0 [] 0 0 0),(G3.mk 0 1 false 2 0 0 0 0 [] 0 0 0),(G3.mk 0 0 true 3 0 0 0 0 [] 0 0 0),(G3.mk 0 1 true 3 0 0 0 0 [] 0 0 0),(G3.mk 1 1 true 4 0 0 0 0 [] 0 0 0)]),E3 ([(G9.mk 0 [0,1])]),G0 0,G0 0,G0 0,G0 0,E4 ([]:List Row),E5 ([]:List Frame),E6 ([]:List Gm),G0 0,G0 0,G0 0,G0 0]) G18 O O O O O O O O) (G7 (hK2 ?_)))))))))))))
 refine Gv (⟨[.agg [E7 ([(G3.mk 0 0 false 2 0 0 0 0 [] 0 0 0),(G3.mk 0 1 false 2 0 0 0 0 [] 0 0 0),(G3.mk 0 0 true 3 0 0 0 0 [] 0 0 0),(G3.mk 0 1 true 3 0 0 0 0 [] 0 0 0),(G3.mk 1 1 true 4 0 0 0 0 [] 0 0 0)]),E3 ([(G9.mk 0 [0,1])]),G0 0,G0 0,G0 0,G0 0,E4 ([]:List Row),E5 ([]:List Frame),E6 ([]:List Gm),G0 0,G0 0,G0 0,G0 0]],[],G,O,⟨⟨_,⟨_,_,_,_,O,O,O,.inl ⟨H7,O⟩⟩,.conv (.same O)⟩,G⟩,O,congrArg (fun r:Gt=>(.agg (Gt.cs r):AV)) (Option.some.inj h)⟩)

def Je (box:Int) (column:Int) (tier:Int) (half:Int):Option Stowed:=
 some (Stowed.mk box (Slot.mk column tier half))
theorem Jv (box:Int) (column:Int) (tier:Int) (half:Int) (r:Stowed) (h:Je box column tier half=some r):Pure Ek 21 [G0 box,G0 column,G0 tier,U8 half] (·=.agg (Stowed.cs r)):=by
 unfold Je at h
 refine H5 [.cell 8 47] Tryz.func21 O O (Jr fun hK1=>(JLh (.ptr 1052 0) (Gc8 1052 [G0 0,G0 0,G0 0,U8 0] [.int .i64 0,.int .i64 0,.int .i64 0,.int .u8 0] G02 ⟨.inl O,.inl O,.inl O,.inl O,G⟩ O O) O (G7 (hK1 ?_))))
 refine Jr fun hK2=>(Rc (G0 box) O (Rc (G0 column) O (Rc (G0 tier) O (Rc (U8 half) O (JLh (.agg [G0 column,G0 tier,U8 half]) (Hp (cs:=[G0 column,G0 tier,U8 half]) [(0,1),(1,1),(2,1)] [G0 0,G0 0,U8 0] [.int .i64 0,.int .i64 0,.int .u8 0] Ga0 Gfa ⟨.inl O,.inl O,.inl O,G⟩ O O) O (JLh (.agg [G0 box,G0 column,G0 tier,U8 half]) (Hp (cs:=[G0 box,G0 column,G0 tier,U8 half]) [(0,1),(1,3)] [G0 0,G0 0,G0 0,U8 0] [.int .i64 0,.int .i64 0,.int .i64 0,.int .u8 0] Z6 G02 ⟨.inl O,.inl O,.inl O,.inl O,G⟩ O O) O (J0 (u:=.junk) (Hh (u:=.agg [G0 box,G0 column,G0 tier,U8 half]) (ds:=[G0 box,G0 column,G0 tier,U8 half]) Yg O O O O O O O O) (G7 (hK2 (Gv ?_))))))))))
 exact⟨[.agg [G0 box,G0 column,G0 tier,U8 half]],[],G,O,⟨⟨_,⟨_,_,_,_,O,O,O,.inl ⟨Qx,O⟩⟩,.conv (.same O)⟩,G⟩,O,congrArg (fun r:Stowed=>(.agg (Stowed.cs r):AV)) (Option.some.inj h)⟩

def G0c (x:Int):Option Bool:=
 some (decide (x≠x))
theorem Gd4 (x:Int) (r:Bool) (h:G0c x=some r):Pure Ek 94 [G0 x] (·=BL r):=by
 unfold G0c at h
 refine H5 [.tmp 2] Tryz.func94 O O (Jr fun hK1=>(Rc (BL false) O (G7 (hK1 (Jr fun hK2=>(Rc (G0 x) O (Rc (G0 x) O (JLh (BL (decide (x≠x))) (G38 O O O) O (Rc (BL (decide (x≠x))) O (G7 (hK2 (Gv (fin1 BL h)))))))))))))

def G21 (x:Int) (y:Int):Option Bool:=
 bnd (G0c x) fun r3=>
 bnd (bif r3 then G0c y else some default) fun r4=>
 some ((r3&&(!r4))||(decide (x < y)))
theorem Hbe (x:Int) (y:Int) (r:Bool) (h:G21 x y=some r):Pure Ek 59 [G0 x,G0 y] (·=BL r):=by
 unfold G21 at h
 refine H5 [.tmp 4] Tryz.func59 O O (Jr fun hK1=>(Rc (BL false) O (G7 (hK1 (Jr fun hK2=>(Rc (G0 x) O ?_))))))
 obtain⟨r3,hr3,h⟩:=Gf h
 refine JLh (BL r3) (Gu O (Gd4 x r3 hr3) J0f ⟨O,O,G⟩) O (Rc (BL r3) O (JLo (G0 y) [] O .sct G (fun hc=>G5 O O) O ?_))
 obtain⟨r4,hr4,h⟩:=Gf h
 refine JLo (BL r4) [8] O .sct ⟨Ua,G⟩ (fun hc=>Gu (args:=[G0 y]) O (Gd4 y r4 (H4 hc hr4)) J0f ⟨O,O,G⟩) O (JLo (BL (!r4)) [9] O .sct ⟨Ua,G⟩ (fun hc=>Ze (b:=r4) O O) O (JLh (BL (r3&&(!r4))) (Q6 O O O O) O (Rc (BL (r3&&(!r4))) O (JLo (G0 x) [] O .scf G (fun hc=>G5 O O) O (JLo (G0 y) [] O .scf G (fun hc=>G5 O O) O (JLo (BL (decide (x < y))) [13,14] O .scf ⟨Ua,Ua,G⟩ (fun hc=>Jt O O O) O (JLh (BL ((r3&&(!r4))||(decide (x < y)))) (G24 O O O O) O (Rc (BL ((r3&&(!r4))||(decide (x < y)))) O (G7 (hK2 (Gv (fin1 BL h))))))))))))

def Z3 (x:Int):Option Bool:=
 some (decide (x≠x))
theorem G90 (x:Int) (r:Bool) (h:Z3 x=some r):Pure Ek 60 [G0 x] (·=BL r):=by
 unfold Z3 at h
 refine H5 [.tmp 2] Tryz.func60 O O (Jr fun hK1=>(Rc (BL false) O (G7 (hK1 (Jr fun hK2=>(Rc (G0 x) O (Rc (G0 x) O (JLh (BL (decide (x≠x))) (G38 O O O) O (Rc (BL (decide (x≠x))) O (G7 (hK2 (Gv (fin1 BL h)))))))))))))

def Qf (F:Nat) (x:List Int) (target:Int):Option (Int×Bool):=
 loop (fun nx16 (s16:Int×Int)=>
  bif decide (s16.1 < s16.2) then
  (G08 (s16.1+s16.2) fun v20=>
   G08 (G6d .u64 (IntKind.u64.wrap v20) 1) fun v21=>
   Yn x v21 fun y23=>
   bnd (G21 y23 target) fun r25=>
   bif r25 then
   (G08 (v21+1) fun v26=>
    nx16 (v26,s16.2))
   else
   (nx16 (s16.1,v21)))
  else
  (bnd (bif decide (s16.1 < (x.length:Int)) then Yn x s16.1 some else some default) fun y28=>
   bnd (bif ((decide (s16.1 < (x.length:Int)))&&!(decide (y28=target))) then Yn x s16.1 some else some default) fun y29=>
   bnd (bif ((decide (s16.1 < (x.length:Int)))&&!(decide (y28=target))) then Z3 y29 else some default) fun r30=>
   bnd (bif (((decide (s16.1 < (x.length:Int)))&&!(decide (y28=target)))&&r30) then Z3 target else some default) fun r31=>
   some (s16.1,((decide (s16.1 < (x.length:Int)))&&((decide (y28=target))||(r30&&r31)))))) F (0,(x.length:Int))
theorem G14 (F:Nat) (x:List Int) (target:Int) (r:Int×Bool) (h:Qf F x target=some r):Pure Ek 32 [E0 x,G0 target] (·=.tup [G0 r.1,BL r.2]):=by
 unfold Qf at h
 refine H5 [.tmp 4,.tmp 5] Tryz.func32 O O (Jr fun hK1=>(Rc (G0 0) O (Rc (BL false) O (G7 (hK1 (Jr fun hK2=>(Rc (E0 x) O (JLl Gq O O O fun hm11=>(Rc (Ej x.length) O (G7 (hK2 (Jr fun hK3=>(Rc (Ej x.length) O (Rc (G0 0) O (Rc (Ej x.length) O (G7 (hK3 (Js fun hK4=>Gx ?_))))))))))))))))))
 obtain⟨b16,hb16,h⟩:=loop_in h
 refine Hz (fun i16 (s16:Int×Int)=>loop b16 i16 s16=some r) (fun i16 s16=>[(0,E0 x),(1,G0 target),(6,Ej x.length),(7,G0 s16.1),(8,G0 s16.2)]) (fun i16 s16=>[]) (fun i16=>i16) F (0,(x.length:Int)) h ⟨(by repeat' constructor),G,rfl⟩ ?_
 clear h
 intro i16 s16 hi16 K16 e16
 obtain⟨m16,nx16,hm_16,hn16,h⟩:=loop_out hi16
 replace h:=app2 hb16 h
 refine Js fun hK17=>Jr fun hK18=>(Rc (G0 s16.1) O (Rc (G0 s16.2) O (JLh (BL (decide (s16.1 < s16.2))) (Jt O O O) O (G7 (hK18 (JCc O h (fun h hb=>?_) (fun h hb=>?_)))))))
 ·
  refine Gr (hK17 (Gx (Jr fun hK19=>(Rc (G0 s16.1) O (Rc (G0 s16.2) O ?_)))))
  obtain⟨v20,hv20,h⟩:=Jc h
  refine JLh (G0 v20) (Hv hv20 O O O) O (JLh (.sc (.int .u64 (IntKind.u64.wrap v20))) (G7e J05 Zt O O O) O (JLh (.sc (.int .u64 (G6d .u64 (IntKind.u64.wrap v20) 1))) (Hc2 (s:=1) O O O O) O ?_))
  obtain⟨v21,hv21,h⟩:=Jc h
  refine JLh (G0 v21) (G7e Zt J05 hv21 O O) O (Rc (G0 v21) O (G7 (hK19 (Jr fun hK22=>(Rc (E0 x) O (Rc (G0 v21) O ?_))))))
  obtain⟨m24,y23,hm24,hy23,h⟩:=Rh h
  refine JLh (.dptr [G0 y23]) (H9 (f:=G0) (xs:=x) (y:=y23) O O O Gq hy23 hm24) O (JLh (G0 y23) (Gi Gd O O O) O (Rc (G0 target) O ?_))
  obtain⟨r25,hr25,h⟩:=Gf h
  refine JLh (BL r25) (Gu O (Hbe y23 target r25 hr25) Jb0 ⟨O,O,O,O,G⟩) O (G7 (hK22 (JCc O h (fun h hb=>?_) (fun h hb=>?_))))
  ·
   refine G4 (Rc (G0 v21) O ?_)
   obtain⟨v26,hv26,h⟩:=Jc h
   refine JLh (G0 v26) (Hv hv26 O O O) O (Rc (G0 v26) O (G7 (e16 _ _ m16 (v26,s16.2) (app1 hn16 h) (by omega) ⟨(by repeat' constructor),G,rfl⟩)))
  ·
   refine G4 (Rc (G0 v21) O (Rc (G0 v21) O (G7 (e16 _ _ m16 (s16.1,v21) (app1 hn16 h) (by omega) ⟨(by repeat' constructor),G,rfl⟩))))
 ·
  refine J6 (hK4 (Jr fun hK27=>(Rc (G0 s16.1) O (Rc (G0 s16.1) O (Rc (Ej x.length) O (JLh (BL (decide (s16.1 < (x.length:Int)))) (Jt O O O) O (Rc (BL (decide (s16.1 < (x.length:Int)))) O (JLo (E0 x) [] O .sct G (fun hc=>G5 O O) O (JLo (G0 s16.1) [] O .sct G (fun hc=>G5 O O) O ?_)))))))))
  obtain⟨y28,hy28,h⟩:=Gf h
  refine JLo (.dptr [G0 y28]) [36,37] O .sct ⟨Ua,Ua,G⟩ (fun hc=>(match Yw (H4 hc hy28) with | ⟨_,hm_,hy_⟩=>H9 (f:=G0) (xs:=x) (y:=y28) O O O Gq hy_ hm_)) O (JLo (G0 y28) [38] O .sct ⟨Ua,G⟩ (fun hc=>Gi Gd O O O) O (JLo (G0 target) [] O .sct G (fun hc=>G5 O O) O (JLo (BL (decide (y28=target))) [39,40] O .sct ⟨Ua,Ua,G⟩ (fun hc=>Jx O O O) O (JLo (BL (decide (y28=target))) [41] O .sct ⟨Ua,G⟩ (fun hc=>G5 O O) O (JLo (E0 x) [] O .optf G (fun hc=>G5 O O) O (JLo (G0 s16.1) [] O .optf G (fun hc=>G5 O O) O ?_))))))
  obtain⟨y29,hy29,h⟩:=Gf h
  refine JLo (.dptr [G0 y29]) [43,44] O .optf ⟨Ua,Ua,G⟩ (fun hc=>(match Yw (H4 hc hy29) with | ⟨_,hm_,hy_⟩=>H9 (f:=G0) (xs:=x) (y:=y29) O O O Gq hy_ hm_)) O (JLo (G0 y29) [45] O .optf ⟨Ua,G⟩ (fun hc=>Gi Gd O O O) O ?_)
  obtain⟨r30,hr30,h⟩:=Gf h
  refine JLo (BL r30) [46] O .optf ⟨Ua,G⟩ (fun hc=>Gu (args:=[G0 y29]) O (G90 y29 r30 (H4 hc hr30)) J14 ⟨O,O,G⟩) O (JLo (BL r30) [47] O .optf ⟨Ua,G⟩ (fun hc=>G5 O O) O (JLo (G0 target) [] O .optt G (fun hc=>G5 O O) O ?_))
  obtain⟨r31,hr31,h⟩:=Gf h
  refine JLo (BL r31) [49] O .optt ⟨Ua,G⟩ (fun hc=>Gu (args:=[G0 target]) O (G90 target r31 (H4 hc hr31)) J14 ⟨O,O,G⟩) O (Gc (u:=BL (r30&&r31)) [(48,BL r30),(50,_)] O O O .optf ⟨.all id,.part,G⟩ (fun hc=>Q6 O O O O) ?_)
  refine Gc (u:=BL ((decide (y28=target))||(r30&&r31))) [(42,BL (decide (y28=target))),(51,_)] O O O .sct ⟨.all id,.part,G⟩ (fun hc=>G24 O O O O) ?_
  refine JLh (BL ((decide (s16.1 < (x.length:Int)))&&((decide (y28=target))||(r30&&r31)))) (Q6 O O O O) O (Rc (G0 s16.1) O (Rc (BL ((decide (s16.1 < (x.length:Int)))&&((decide (y28=target))||(r30&&r31)))) O (G7 (hK27 (Gv (⟨[G0 s16.1,BL ((decide (s16.1 < (x.length:Int)))&&((decide (y28=target))||(r30&&r31)))],[],G,O,⟨⟨_,O,.conv (.same O)⟩,⟨_,O,.conv (.same O)⟩,G⟩,O,congrArg (fun r:Int×Bool=>(.tup [G0 r.1,BL r.2]:AV)) (Option.some.inj h)⟩))))))

def G01 (F:Nat) (s:Gt) (boxes:List Ga) (l:List Stowed) (open_:List Int) (cover:Int):Option ((List Int)×Int):=
 bnd (Qa s boxes l open_) fun r4=>
 bif (!r4) then
 (some ([],2))
 else
 (bif ((decide (cover < 0))||(decide ((s.Covers.length:Int)≤cover))) then
  (some ([],6))
  else
  (bnd (G54 s l cover) fun r9=>
   bif decide (0 < (r9.length:Int)) then
   (some ([],95))
   else
   (bnd (Qf F open_ cover) fun r12=>
    bif r12.2 then
    (bnd (Jn open_) fun r16=>
     some (r16,0))
    else
    (bnd (G09 open_ r12.1 cover) fun r18=>
     some (r18,0)))))
theorem G85 (F:Nat) (s:Gt) (boxes:List Ga) (l:List Stowed) (open_:List Int) (cover:Int) (r:(List Int)×Int) (h:G01 F s boxes l open_ cover=some r):Pure Ek 13 [.agg (Gt.cs s),E2 boxes,E1 l,E0 open_,G0 cover] (·=.tup [E0 r.1,G0 r.2]):=by
 unfold G01 at h
 refine H5 [.tmp 10,.tmp 11] Tryz.func13 O O (Jr fun hK1=>(JLh (.ptr 1039 0) (Q1 (cs:=(Gt.cs s)) 1039 O O O O O) O (JLh (E0 ([]:List Int)) (Hi 1 O O) O (Rc (G0 0) O (G7 (hK1 ?_))))))
 refine Gs [(1,E2 boxes),(2,E1 l),(3,E0 open_),(4,G0 cover),(5,Ec s)] [] 1039 rfl rfl rfl G rfl (by repeat' (first | exact .ptr | constructor)) (Js fun hK2=>Gx ?_)
 refine Jr fun hK3=>(JLh (.agg (Gt.cs s)) (Gh H7 O O O) O (Rc (E2 boxes) O (Rc (E1 l) O (Rc (E0 open_) O ?_))))
 obtain⟨r4,hr4,h⟩:=Gf h
 refine JLh (BL r4) (Gu O (Zu s boxes l open_ r4 hr4) Gb4 ⟨O,O,O,O,O,O,O,O,G⟩) O (JLh (BL (!r4)) (Ze (b:=r4) O O) O (Rc (BL (!r4)) O (G7 (hK3 (JCc O h (fun h hb=>?_) (fun h hb=>?_))))))
 ·
  refine Jr fun hK5=>(JLh (E0 ([]:List Int)) (Hi 1 O O) O (Rc (G0 2) O (G7 (hK5 (Gv (⟨[E0 ([]:List Int),G0 2],[],G,O,⟨⟨_,O,.conv (.same O)⟩,⟨_,O,.conv (.same O)⟩,G⟩,O,congrArg (fun r:(List Int)×Int=>(.tup [E0 r.1,G0 r.2]:AV)) (Option.some.inj h)⟩))))))
 ·
  refine Jr fun hK6=>(Rc (G0 cover) O (JLh (BL (decide (cover < 0))) (Jt O O O) O (Rc (BL (decide (cover < 0))) O (JLo (G0 cover) [] O .scf G (fun hc=>G5 O O) O (JLo (.dptr [E3 s.Covers,G0 s.Light.Kilos,G0 s.Light.X,G0 s.Light.Y,G0 s.Light.Z,E4 s.Rows,E5 s.Frames,E6 s.Tanks,G0 s.G2.Tolerance,G0 s.G2.Trim,G0 s.G2.List_,G0 s.G2.Stability]) [] O .scf G (fun hc=>Gb Hu O O O) O (JLo (E3 s.Covers) [26] O .scf ⟨Ua,G⟩ (fun hc=>Gi Ja O O O) O (JLo (Ej s.Covers.length) [27] O .scf ⟨Ua,G⟩ (fun hc=>Yo (f:=G9.av) (xs:=s.Covers) J8 O O) O (JLo (BL (decide ((s.Covers.length:Int)≤cover))) [25,28] O .scf ⟨Ua,Ua,G⟩ (fun hc=>G9d O O O) O (JLh (BL ((decide (cover < 0))||(decide ((s.Covers.length:Int)≤cover)))) (G24 O O O O) O (Rc (BL ((decide (cover < 0))||(decide ((s.Covers.length:Int)≤cover)))) O (G7 (hK6 ?_))))))))))))
  refine JCc O h (fun h hb=>?_) (fun h hb=>?_)
  ·
   refine Jr fun hK7=>(JLh (E0 ([]:List Int)) (Hi 1 O O) O (Rc (G0 6) O (G7 (hK7 (Gv (⟨[E0 ([]:List Int),G0 6],[],G,O,⟨⟨_,O,.conv (.same O)⟩,⟨_,O,.conv (.same O)⟩,G⟩,O,congrArg (fun r:(List Int)×Int=>(.tup [E0 r.1,G0 r.2]:AV)) (Option.some.inj h)⟩))))))
  ·
   refine Jr fun hK8=>(JLh (.agg (Gt.cs s)) (Gh H7 O O O) O (Rc (E1 l) O (Rc (G0 cover) O ?_)))
   obtain⟨r9,hr9,h⟩:=Gf h
   refine JLh (E0 r9) (Gu O (H56 s l cover r9 hr9) J20 ⟨O,O,O,O,O,O,G⟩) O (JLl Gq O O O fun hm36=>(JLh (BL (decide (0 < (r9.length:Int)))) (G9c O O O) O (Rc (BL (decide (0 < (r9.length:Int)))) O (G7 (hK8 (JCc O h (fun h hb=>?_) (fun h hb=>?_)))))))
   ·
    refine Jr fun hK10=>(JLh (E0 ([]:List Int)) (Hi 1 O O) O (Rc (G0 95) O (G7 (hK10 (Gv (⟨[E0 ([]:List Int),G0 95],[],G,O,⟨⟨_,O,.conv (.same O)⟩,⟨_,O,.conv (.same O)⟩,G⟩,O,congrArg (fun r:(List Int)×Int=>(.tup [E0 r.1,G0 r.2]:AV)) (Option.some.inj h)⟩))))))
   ·
    refine Gr (hK2 (Jr fun hK11=>(Rc (E0 open_) O (Rc (G0 cover) O ?_))))
    obtain⟨r12,hr12,h⟩:=Gf h
    refine JLh (.tup [G0 r12.1,BL r12.2]) (Gu O (G14 F open_ cover r12 hr12) J1f ⟨O,O,O,O,G⟩) O (Rc (.tup [G0 r12.1,BL r12.2]) O (JLh (G0 r12.1) (H2 O O O) O (JLh (BL r12.2) (H2 O O O) O (Rc (G0 r12.1) O (Rc (BL r12.2) O (G7 (hK11 (Js fun hK13=>Jr fun hK14=>(Rc (BL r12.2) O (G7 (hK14 (JCc O h (fun h hb=>?_) (fun h hb=>?_)))))))))))))
    ·
     refine Jr fun hK15=>(Rc (E0 open_) O ?_)
     obtain⟨r16,hr16,h⟩:=Gf h
     refine JLh (E0 r16) (Gu O (G91 open_ r16 hr16) J1e ⟨O,O,G⟩) O (Rc (E0 r16) O (Rc (G0 0) O (G7 (hK15 (Gv (⟨[E0 r16,G0 0],[],G,O,⟨⟨_,O,.conv (.same O)⟩,⟨_,O,.conv (.same O)⟩,G⟩,O,congrArg (fun r:(List Int)×Int=>(.tup [E0 r.1,G0 r.2]:AV)) (Option.some.inj h)⟩))))))
    ·
     refine Gr (hK13 (Jr fun hK17=>(Rc (E0 open_) O (Rc (G0 r12.1) O (Rc (G0 cover) O ?_)))))
     obtain⟨r18,hr18,h⟩:=Gf h
     refine JLh (E0 r18) (Gu O (H99.down open_ r12.1 cover r18 hr18) Jbc ⟨O,O,O,O,O,O,G⟩) O (Rc (E0 r18) O (Rc (G0 0) O (G7 (hK17 (Gv (⟨[E0 r18,G0 0],[],G,O,⟨⟨_,O,.conv (.same O)⟩,⟨_,O,.conv (.same O)⟩,G⟩,O,congrArg (fun r:(List Int)×Int=>(.tup [E0 r.1,G0 r.2]:AV)) (Option.some.inj h)⟩))))))

def Yk (p:Hd):Option Bool:=
 bnd (Z4 p.s p.x.Slot.G3) fun r4=>
 bnd (bif decide (0≤r4) then Yn p.s.Columns p.x.Slot.G3 some else some default) fun y6=>
 bnd (bif decide (0≤r4) then Qj p.open_ r4 else some default) fun r7=>
 some ((decide (0≤r4))&&(y6.Deck==r7))
theorem H1b (p:Hd) (r:Bool) (h:Yk p=some r):Pure Ek 39 [.agg (Hd.cs p)] (·=BL r):=by
 unfold Yk at h
 refine H5 [.tmp 2] Tryz.func39 O O (Jr fun hK1=>(JLh (.ptr 1078 0) (Q1 (cs:=(Hd.cs p)) 1078 O O O O O) O (Rc (BL false) O (G7 (hK1 ?_)))))
 refine Gs [(1,Ef p)] [] 1078 rfl rfl rfl G rfl (by exact⟨.ptr,G⟩) (Jr fun hK2=>(JLh (Ed p.x) (Gb G0d O O O) O (JLh (.dptr ((Stowed.cs p.x).drop 1)) (Gb J7 O O O) O (JLh (.dptr ((Stowed.cs p.x).drop 1)) (Gb Jf O O O) O (JLh (G0 p.x.Slot.G3) (Gi Gd O O O) O (Rc (G0 p.x.Slot.G3) O (G7 (hK2 ?_))))))))
 refine Jr fun hK3=>(JLh (Ef p) (Gb Gda O O O) O (JLh (.agg (Gt.cs p.s)) (Gh H7 O O O) O (Rc (G0 p.x.Slot.G3) O ?_)))
 obtain⟨r4,hr4,h⟩:=Gf h
 refine JLh (G0 r4) (Gu O (Gf0 p.s p.x.Slot.G3 r4 hr4) J17 ⟨O,O,O,O,G⟩) O (Rc (G0 r4) O (G7 (hK3 (Js fun hK5=>?_))))
 obtain⟨y6,hy6,h⟩:=Gf h
 obtain⟨r7,hr7,h⟩:=Gf h
 refine JC_d0 Jz (by kernel_rfl) (Dq (G0 r4) (G5 O O) O (Dq (BL (decide (0≤r4))) (G9d O O O) O (Dq (BL (decide (0≤r4))) (G5 O O) O (Do (Ef p) [] O .sct G (fun hc=>Gb Gda O O O) O (Do (Ef p) [16] O .sct ⟨Ua,G⟩ (fun hc=>Gb Hm O O O) O (Do (E7 p.s.Columns) [17] O .sct ⟨Ua,G⟩ (fun hc=>Gi J4 O O O) O (Do (G0 p.x.Slot.G3) [] O .sct G (fun hc=>G5 O O) O (Do (Ee y6) [18,19] O .sct ⟨Ua,Ua,G⟩ (fun hc=>(match Yw (H4 hc hy6) with | ⟨_,hm_,hy_⟩=>H9 (f:=G3.av) (xs:=p.s.Columns) (y:=y6) O O O Hq hy_ hm_)) O (Do (.dptr ((G3.cs y6).drop 2)) [20] O .sct ⟨Ua,G⟩ (fun hc=>Gb R2 O O O) O (Do (BL y6.Deck) [21] O .sct ⟨Ua,G⟩ (fun hc=>Gi Jp O O O) O (Do (.dptr [E0 p.open_,G0 p.x.Ga,G0 p.x.Slot.G3,G0 p.x.Slot.Tier,U8 p.x.Slot.Half]) [] O .sct G (fun hc=>Gb J64 O O O) O (Do (E0 p.open_) [23] O .sct ⟨Ua,G⟩ (fun hc=>Gi Qq O O O) O (Do (G0 r4) [] O .sct G (fun hc=>G5 O O) O ?_)))))))))))))
 refine Do (BL r7) [24,25] O .sct ⟨Ua,Ua,G⟩ (fun hc=>Gu (args:=[E0 p.open_,G0 r4]) O (Zx p.open_ r4 r7 (H4 hc hr7)) H61 ⟨O,O,O,O,G⟩) O (Do (BL (y6.Deck==r7)) [22,26] O .sct ⟨Ua,Ua,G⟩ (fun hc=>Ha1 Gae O O O) O (Dq (BL ((decide (0≤r4))&&(y6.Deck==r7))) (Q6 O O O O) O (Dq (BL ((decide (0≤r4))&&(y6.Deck==r7))) (G8 O O) O (Dnil (hK5 (Gv (fin1 BL h)))))))

def Qp (y:Stowed) (p1:Hd):Option Bool:=
 bnd (G57 p1.x.Slot y.Slot) fun r3=>
 some r3
theorem H0f (y:Stowed) (p1:Hd) (r:Bool) (h:Qp y p1=some r):Pure Ek 70 [.agg (Stowed.cs y),Ef p1] (·=BL r):=by
 unfold Qp at h
 refine H5 [.tmp 3] Tryz.func70 O O (Jr fun hK1=>(JLh (.ptr 1107 0) (Q1 (cs:=[G0 y.Ga,G0 y.Slot.G3,G0 y.Slot.Tier,U8 y.Slot.Half]) 1107 O O O O O) O (Rc (BL false) O (G7 (hK1 (Gs [(1,Ef p1),(2,Ed y)] [] 1107 rfl rfl rfl G rfl (by exact⟨.conv (.same rfl),.ptr,G⟩) (Jr fun hK2=>(JLh (.dptr ((Hd.cs p1).drop 16)) (Gb G0d O O O) O (JLh (.dptr ((Hd.cs p1).drop 17)) (Gb J7 O O O) O (JLh (.agg ((Hd.cs p1).drop 17)) (Gh Q4 O O O) O (JLh (.dptr ((Stowed.cs y).drop 1)) (Gb J7 O O O) O (JLh (.agg ((Stowed.cs y).drop 1)) (Gh Q4 O O O) O ?_))))))))))))
 obtain⟨r3,hr3,h⟩:=Gf h
 refine JLh (BL r3) (Gu O (H59 p1.x.Slot y.Slot r3 hr3) J19 ⟨O,O,O,O,G⟩) O (Rc (BL r3) O (G7 (hK2 (Gv (fin1 BL h)))))

def Qo (s:List Stowed) (f:Stowed→Option Bool):Option Bool:=
 bnd (Qg s f) fun r3=>
 some (decide (0≤r3))
theorem G5d (s:List Stowed) (f:Stowed→Option Bool) (f_f:FuncId) (f_c:List AV) (f_B:Hf Ek f_f=true) (f_d:Y8 (fun _=>false) f_c=true) (f_w:∀ a0 q,f a0=some q→Pure Ek f_f ([.agg (Stowed.cs a0)]++f_c) (·=BL q)) (r:Bool) (h:Qo s f=some r):Pure Ek 69 [E1 s,.fn f_f f_c] (·=BL r):=by
 unfold Qo at h
 refine H5 [.tmp 4] Tryz.func69 O O (Jr fun hK1=>(Rc (BL false) O (G7 (hK1 (Jr fun hK2=>(Rc (E1 s) O (Rc (.fn f_f f_c) O ?_)))))))
 obtain⟨r3,hr3,h⟩:=Gf h
 refine JLh (G0 r3) (Gu O (Zw s f f_f f_c f_B f_d f_w r3 hr3) J16 ⟨O,O,O,f_d,G⟩) O (JLh (BL (decide (0≤r3))) (G9d O O O) O (Rc (BL (decide (0≤r3))) O (G7 (hK2 (Gv (fin1 BL h))))))

def Z2 (p:Hd):Option Bool:=
 bnd (Qo p.l (fun z0=>Qp z0 p)) fun r3=>
 some r3
theorem H36 (p:Hd) (r:Bool) (h:Z2 p=some r):Pure Ek 40 [.agg (Hd.cs p)] (·=BL r):=by
 unfold Z2 at h
 refine H5 [.tmp 2] Tryz.func40 O O (Jr fun hK1=>(JLh (.ptr 1079 0) (Q1 (cs:=(Hd.cs p)) 1079 O O O O O) O (Rc (BL false) O (G7 (hK1 ?_)))))
 refine Gs [(1,Ef p)] [] 1079 rfl rfl rfl G rfl (by exact⟨.ptr,G⟩) ?_
 refine Jr fun hK2=>(JLh (.dptr [E1 p.l,E0 p.open_,G0 p.x.Ga,G0 p.x.Slot.G3,G0 p.x.Slot.Tier,U8 p.x.Slot.Half]) (Gb G3c O O O) O (JLh (E1 p.l) (Gi Rg O O O) O (JLh (.fn 70 [.dptr (Hd.cs p)]) (Z5 (cs:=[.dptr (Hd.cs p)]) O O) O ?_)))
 obtain⟨r3,hr3,h⟩:=Gf h
 refine JLh (BL r3) (Gu O (G5d p.l (fun z0=>Qp z0 p) 70 [.dptr (Hd.cs p)] Jaa O (fun z0 q hq=>H0f z0 p q hq) r3 hr3) Jab ⟨O,O,O,O,G⟩) O (Rc (BL r3) O (G7 (hK2 (Gv (fin1 BL h)))))

def Zb (p:Hd):Option Bool:=
 bnd (G2d p.l) fun r3=>
 bnd (G58 p.x.Slot r3) fun r4=>
 some (!r4)
theorem H10 (p:Hd) (r:Bool) (h:Zb p=some r):Pure Ek 41 [.agg (Hd.cs p)] (·=BL r):=by
 unfold Zb at h
 refine H5 [.tmp 2] Tryz.func41 O O (Jr fun hK1=>(JLh (.ptr 1080 0) (Q1 (cs:=(Hd.cs p)) 1080 O O O O O) O (Rc (BL false) O (G7 (hK1 ?_)))))
 refine Gs [(1,Ef p)] [] 1080 rfl rfl rfl G rfl (by exact⟨.ptr,G⟩) (Js fun hK2=>?_)
 obtain⟨r3,hr3,h⟩:=Gf h
 obtain⟨r4,hr4,h⟩:=Gf h
 refine JC_d0 Jz (by kernel_rfl) (Dq (Ed p.x) (Gb G0d O O O) O (Dq (.dptr ((Stowed.cs p.x).drop 1)) (Gb J7 O O O) O (Dq (.agg ((Stowed.cs p.x).drop 1)) (Gh Q4 O O O) O (Dq (.dptr [E1 p.l,E0 p.open_,G0 p.x.Ga,G0 p.x.Slot.G3,G0 p.x.Slot.Tier,U8 p.x.Slot.Half]) (Gb G3c O O O) O (Dq (E1 p.l) (Gi Rg O O O) O (Dq (E8 r3) (Gu (args:=[E1 p.l]) O (H35 p.l r3 hr3) J1b ⟨O,O,G⟩) O (Dq (BL r4) (Gu (args:=[.agg ((Stowed.cs p.x).drop 1),E8 r3]) O (H5a p.x.Slot r3 r4 hr4) J1a ⟨O,O,O,O,G⟩) O (Dq (BL (!r4)) (Ze (b:=r4) O O) O (Dq (BL (!r4)) (G8 O O) O (Dnil (hK2 (Gv (fin1 BL h)))))))))))))

def Qz (F:Nat) (p:Hd):Option (List Stowed):=
 loop (fun nx10 (s10:Int)=>
  bnd (bif decide (s10 < (p.l.length:Int)) then Yn p.l s10 some else some default) fun y13=>
  bif ((decide (s10 < (p.l.length:Int)))&&(decide (y13.Ga < p.x.Ga))) then
  (G08 (s10+1) fun v14=>
   nx10 v14)
  else
  (bnd (Qy p.l s10 p.x) fun r16=>
   some r16)) F 0
theorem G55 (F:Nat) (p:Hd) (r:(List Stowed)) (h:Qz F p=some r):Pure Ek 43 [.agg (Hd.cs p)] (·=E1 r):=by
 unfold Qz at h
 refine H5 [.tmp 2] Tryz.func43 O O (Jr fun hK1=>(JLh (.ptr 1082 0) (Q1 (cs:=(Hd.cs p)) 1082 O O O O O) O (JLh (E1 ([]:List Stowed)) (Hi 4 O O) O (G7 (hK1 ?_)))))
 refine Gs [(1,Ef p)] [] 1082 rfl rfl rfl G rfl (by exact⟨.ptr,G⟩) (Jr fun hK2=>(Rc (G0 0) O (G7 (hK2 (Js fun hK3=>Gx ?_)))))
 obtain⟨b10,hb10,h⟩:=loop_in h
 refine Hz (fun i10 (s10:Int)=>loop b10 i10 s10=some r) (fun i10 s10=>[(1,Ef p),(3,G0 s10)]) (fun i10 s10=>[]) (fun i10=>i10) F 0 h ⟨⟨.same O,.same O,G⟩,G,O⟩ ?_
 clear h
 intro i10 s10 hi10 K10 e10
 obtain⟨m10,nx10,hm_10,hn10,h⟩:=loop_out hi10
 replace h:=app2 hb10 h
 refine Js fun hK11=>Js fun hK12=>?_
 obtain⟨y13,hy13,h⟩:=Gf h
 refine JC_d0 Jz (by kernel_rfl) (Dq (G0 s10) (G5 O O) O (Dq (.dptr [E1 p.l,E0 p.open_,G0 p.x.Ga,G0 p.x.Slot.G3,G0 p.x.Slot.Tier,U8 p.x.Slot.Half]) (Gb G3c O O O) O (Dq (E1 p.l) (Gi Rg O O O) O (Dq (Ej p.l.length) (Yo (f:=Stowed.av) (xs:=p.l) H0 O O) O (Dq (BL (decide (s10 < (p.l.length:Int)))) (Jt O O O) O (Dq (BL (decide (s10 < (p.l.length:Int)))) (G5 O O) O (Do (.dptr [E1 p.l,E0 p.open_,G0 p.x.Ga,G0 p.x.Slot.G3,G0 p.x.Slot.Tier,U8 p.x.Slot.Half]) [] O .sct G (fun hc=>Gb G3c O O O) O (Do (E1 p.l) [10] O .sct ⟨Ua,G⟩ (fun hc=>Gi Rg O O O) O (Do (G0 s10) [] O .sct G (fun hc=>G5 O O) O (Do (Ed y13) [11,12] O .sct ⟨Ua,Ua,G⟩ (fun hc=>(match Yw (H4 hc hy13) with | ⟨_,hm_,hy_⟩=>H9 (f:=Stowed.av) (xs:=p.l) (y:=y13) O O O H0 hy_ hm_)) O (Do (Ed y13) [13] O .sct ⟨Ua,G⟩ (fun hc=>Gb Ht O O O) O (Do (G0 y13.Ga) [14] O .sct ⟨Ua,G⟩ (fun hc=>Gi Gd O O O) O (Do (Ed p.x) [] O .sct G (fun hc=>Gb G0d O O O) O ?_)))))))))))))
 refine Do (Ed p.x) [16] O .sct ⟨Ua,G⟩ (fun hc=>Gb Ht O O O) O (Do (G0 p.x.Ga) [17] O .sct ⟨Ua,G⟩ (fun hc=>Gi Gd O O O) O (Do (BL (decide (y13.Ga < p.x.Ga))) [15,18] O .sct ⟨Ua,Ua,G⟩ (fun hc=>Jt O O O) O (Dq (BL ((decide (s10 < (p.l.length:Int)))&&(decide (y13.Ga < p.x.Ga)))) (Q6 O O O O) O (Dnil (hK12 (JCc O h (fun h hb=>?_) (fun h hb=>?_)))))))
 ·
  refine Gr (hK11 (Gx (G4 (Rc (G0 s10) O ?_))))
  obtain⟨v14,hv14,h⟩:=Jc h
  refine JLh (G0 v14) (Hv hv14 O O O) O (Rc (G0 v14) O (G7 (e10 _ _ m10 v14 (app1 hn10 h) (by omega) ⟨⟨.same rfl,.same rfl,G⟩,G,rfl⟩)))
 ·
  refine J6 (hK3 (Jr fun hK15=>(JLh (.dptr [E1 p.l,E0 p.open_,G0 p.x.Ga,G0 p.x.Slot.G3,G0 p.x.Slot.Tier,U8 p.x.Slot.Half]) (Gb G3c O O O) O (JLh (E1 p.l) (Gi Rg O O O) O (Rc (G0 s10) O (JLh (Ed p.x) (Gb G0d O O O) O (JLh (.agg (Stowed.cs p.x)) (Gh Qx O O O) O ?_)))))))
  obtain⟨r16,hr16,h⟩:=Gf h
  refine JLh (E1 r16) (Gu O (Gec.down p.l s10 p.x r16 hr16) Ja9 ⟨O,O,O,O,O,O,G⟩) O (Rc (E1 r16) O (G7 (hK15 (Gv (fin1 (fun r:(List Stowed)=>(E1 r:AV)) h)))))

def Zs (F:Nat) (p:Hd):Option Bool:=
 bnd (Qz F p) fun r3=>
 bnd (G1d p.s p.boxes r3 p.x.Slot.G3) fun r4=>
 some (!r4)
theorem H1c (F:Nat) (p:Hd) (r:Bool) (h:Zs F p=some r):Pure Ek 42 [.agg (Hd.cs p)] (·=BL r):=by
 unfold Zs at h
 refine H5 [.tmp 2] Tryz.func42 O O (Jr fun hK1=>(JLh (.ptr 1081 0) (Q1 (cs:=(Hd.cs p)) 1081 O O O O O) O (Rc (BL false) O (G7 (hK1 ?_)))))
 refine Gs [(1,Ef p)] [] 1081 rfl rfl rfl G rfl (by exact⟨.ptr,G⟩) (Js fun hK2=>?_)
 obtain⟨r3,hr3,h⟩:=Gf h
 obtain⟨r4,hr4,h⟩:=Gf h
 refine JC_d0 Jz (by kernel_rfl) (Dq (Ef p) (Gb Gda O O O) O (Dq (.agg (Gt.cs p.s)) (Gh H7 O O O) O (Dq (.dptr [E2 p.boxes,E1 p.l,E0 p.open_,G0 p.x.Ga,G0 p.x.Slot.G3,G0 p.x.Slot.Tier,U8 p.x.Slot.Half]) (Gb J65 O O O) O (Dq (E2 p.boxes) (Gi J71 O O O) O (Dq (.agg (Hd.cs p)) (Gh Gaf O O O) O (Dq (E1 r3) (Gu (args:=[.agg (Hd.cs p)]) O (G55 F p r3 hr3) J1c ⟨O,O,G⟩) O (Dq (Ed p.x) (Gb G0d O O O) O (Dq (.dptr ((Stowed.cs p.x).drop 1)) (Gb J7 O O O) O (Dq (.dptr ((Stowed.cs p.x).drop 1)) (Gb Jf O O O) O (Dq (G0 p.x.Slot.G3) (Gi Gd O O O) O (Dq (BL r4) (Gu (args:=[.agg (Gt.cs p.s),E2 p.boxes,E1 r3,G0 p.x.Slot.G3]) O (H57 p.s p.boxes r3 p.x.Slot.G3 r4 hr4) J18 ⟨O,O,O,O,O,O,O,O,G⟩) O (Dq (BL (!r4)) (Ze (b:=r4) O O) O (Dq (BL (!r4)) (G8 O O) O (Dnil ?_))))))))))))))
 refine hK2 (Gv (fin1 BL h))

def Rx (F:Nat) (s:Gt) (boxes:List Ga) (l:List Stowed) (open_:List Int) (x:Stowed):Option ((List Stowed)×Int):=
 bnd (Qa s boxes l open_) fun r4=>
 bif (!r4) then
 (some ([],2))
 else
 (bnd (G1e boxes x.Ga) fun r7=>
  bif ((!r7.2)||((decide (r7.1.Size≠20))&&(decide (r7.1.Size≠40)))) then
  (some ([],6))
  else
  (bnd (R8 l x.Ga) fun r12=>
   bif decide (0≤r12) then
   (some ([],96))
   else
   (bnd (G30 s x.Slot r7.1.Size) fun r15=>
    bif (!r15) then
    (some ([],97))
    else
    (need (decide (4≤9223372036854775807)) <|
     upto (fun i60 (s60:Unit) nx60=>
      jp (fun kj63=>
       bif decide ((i60:Int)=0) then
       (bnd (Yk (Hd.mk s boxes l open_ x)) fun r67=>
        bif r67 then
        (G08 (91+(i60:Int)) fun v69=>
         some ([],v69))
        else
        (kj63 ()))
       else
       (bif decide ((i60:Int)=1) then
        (bnd (Z2 (Hd.mk s boxes l open_ x)) fun r71=>
         bif r71 then
         (G08 (91+(i60:Int)) fun v73=>
          some ([],v73))
         else
         (kj63 ()))
        else
        (bif decide ((i60:Int)=2) then
         (bnd (Zb (Hd.mk s boxes l open_ x)) fun r75=>
          bif r75 then
          (G08 (91+(i60:Int)) fun v77=>
           some ([],v77))
          else
          (kj63 ()))
         else
         (bif decide ((i60:Int)=3) then
          (bnd (Zs F (Hd.mk s boxes l open_ x)) fun r79=>
           bif r79 then
           (G08 (91+(i60:Int)) fun v81=>
            some ([],v81))
           else
           (kj63 ()))
          else
          (none))))) fun(j63:Unit)=>
      nx60 ())
     (fun(s60:Unit)=>
      bnd (Qz F (Hd.mk s boxes l open_ x)) fun r83=>
      some (r83,0)) (4:Int).toNat 0 ()))))
theorem G2f (F:Nat) (s:Gt) (boxes:List Ga) (l:List Stowed) (open_:List Int) (x:Stowed) (r:(List Stowed)×Int) (h:Rx F s boxes l open_ x=some r):Pure Ek 16 [.agg (Gt.cs s),E2 boxes,E1 l,E0 open_,.agg (Stowed.cs x)] (·=.tup [E1 r.1,G0 r.2]):=by
 unfold Rx at h
 refine H5 [.tmp 10,.tmp 11] Tryz.func16 O O (Jr fun hK1=>(JLh (.ptr 1042 0) (Q1 (cs:=(Gt.cs s)) 1042 O O O O O) O (JLh (.ptr 1043 0) (Q1 (cs:=[G0 x.Ga,G0 x.Slot.G3,G0 x.Slot.Tier,U8 x.Slot.Half]) 1043 O O O O O) O (JLh (E1 ([]:List Stowed)) (Hi 4 O O) O (Rc (G0 0) O (G7 (hK1 ?_)))))))
 refine Gs [(1,E2 boxes),(2,E1 l),(3,E0 open_),(5,Ec s),(9,.ptr 1043 0)] [(1043,.box 47 [G0 x.Ga,G0 x.Slot.G3,G0 x.Slot.Tier,U8 x.Slot.Half])] 1042 rfl rfl rfl ⟨⟨_,rfl,.boxEq rfl rfl⟩,G⟩ rfl (by repeat' (first | exact .ptr | constructor)) ?_
 refine Gs [(1,E2 boxes),(2,E1 l),(3,E0 open_),(5,Ec s),(9,Ed x)] [] 1043 rfl rfl rfl G rfl (by repeat' (first | exact .ptr | constructor)) (Js fun hK2=>?_)
 refine Jr fun hK3=>(JLh (.agg (Gt.cs s)) (Gh H7 O O O) O (Rc (E2 boxes) O (Rc (E1 l) O (Rc (E0 open_) O ?_))))
 obtain⟨r4,hr4,h⟩:=Gf h
 refine JLh (BL r4) (Gu O (Zu s boxes l open_ r4 hr4) Gb4 ⟨O,O,O,O,O,O,O,O,G⟩) O (JLh (BL (!r4)) (Ze (b:=r4) O O) O (G7 (hK3 (JCc O h (fun h hb=>?_) (fun h hb=>?_)))))
 ·
  refine Jr fun hK5=>(JLh (E1 ([]:List Stowed)) (Hi 4 O O) O (Rc (G0 2) O (G7 (hK5 (Gv (⟨[E1 ([]:List Stowed),G0 2],[],G,O,⟨⟨_,O,.conv (.same O)⟩,⟨_,O,.conv (.same O)⟩,G⟩,O,congrArg (fun r:(List Stowed)×Int=>(.tup [E1 r.1,G0 r.2]:AV)) (Option.some.inj h)⟩))))))
 ·
  refine Gr (hK2 (Jr fun hK6=>(Rc (E2 boxes) O (JLh (Ed x) (Gb Ht O O O) O (JLh (G0 x.Ga) (Gi Gd O O O) O ?_)))))
  obtain⟨r7,hr7,h⟩:=Gf h
  refine JLh (.tup [.agg (Ga.cs r7.1),BL r7.2]) (Gu O (Ge2 boxes x.Ga r7 hr7) H60 ⟨O,O,O,O,G⟩) O (Rc (.tup [.agg (Ga.cs r7.1),BL r7.2]) O (JLh (.agg (Ga.cs r7.1)) (H2 O O O) O (JLh (BL r7.2) (H2 O O O) O (JLh (.ptr 1044 0) (Hs 1044 9 Y6 O O) O (J0 (u:=.junk) (Hh (u:=.agg (Ga.cs r7.1)) (ds:=(Ga.cs r7.1)) G17 O O O O O O O O) (Rc (BL r7.2) O (G7 (hK6 ?_))))))))
  refine Gs [(1,E2 boxes),(2,E1 l),(3,E0 open_),(5,Ec s),(9,Ed x),(12,Eh r7.1),(13,BL r7.2)] [] 1044 rfl rfl rfl G rfl (by repeat' (first | exact .ptr | constructor)) (Js fun hK8=>Gx ?_)
  refine Jr fun hK9=>(Rc (BL r7.2) O (JLh (BL (!r7.2)) (Ze (b:=r7.2) O O) O (Rc (BL (!r7.2)) O (JLo (.dptr ((Ga.cs r7.1).drop 2)) [] O .scf G (fun hc=>Gb Y0 O O O) O (JLo (U8 r7.1.Size) [34] O .scf ⟨Ua,G⟩ (fun hc=>Gi Hw O O O) O (JLo (BL (decide (r7.1.Size≠20))) [35] O .scf ⟨Ua,G⟩ (fun hc=>G38 O O O) O (JLo (BL (decide (r7.1.Size≠20))) [36] O .scf ⟨Ua,G⟩ (fun hc=>G5 O O) O (JLo (.dptr ((Ga.cs r7.1).drop 2)) [] O .optt G (fun hc=>Gb Y0 O O O) O (JLo (U8 r7.1.Size) [38] O .optt ⟨Ua,G⟩ (fun hc=>Gi Hw O O O) O (JLo (BL (decide (r7.1.Size≠40))) [39] O .optt ⟨Ua,G⟩ (fun hc=>G38 O O O) O (Gc (u:=BL ((decide (r7.1.Size≠20))&&(decide (r7.1.Size≠40)))) [(37,BL (decide (r7.1.Size≠20))),(40,_)] O O O .scf ⟨.all id,.part,G⟩ (fun hc=>Q6 O O O O) ?_)))))))))))
  refine JLh (BL ((!r7.2)||((decide (r7.1.Size≠20))&&(decide (r7.1.Size≠40))))) (G24 O O O O) O (Rc (BL ((!r7.2)||((decide (r7.1.Size≠20))&&(decide (r7.1.Size≠40))))) O (G7 (hK9 (JCc O h (fun h hb=>?_) (fun h hb=>?_)))))
  ·
   refine Jr fun hK10=>(JLh (E1 ([]:List Stowed)) (Hi 4 O O) O (Rc (G0 6) O (G7 (hK10 (Gv (⟨[E1 ([]:List Stowed),G0 6],[],G,O,⟨⟨_,O,.conv (.same O)⟩,⟨_,O,.conv (.same O)⟩,G⟩,O,congrArg (fun r:(List Stowed)×Int=>(.tup [E1 r.1,G0 r.2]:AV)) (Option.some.inj h)⟩))))))
  ·
   refine Jr fun hK11=>(Rc (E1 l) O (JLh (Ed x) (Gb Ht O O O) O (JLh (G0 x.Ga) (Gi Gd O O O) O ?_)))
   obtain⟨r12,hr12,h⟩:=Gf h
   refine JLh (G0 r12) (Gu O (G0f l x.Ga r12 hr12) G72 ⟨O,O,O,O,G⟩) O (JLh (BL (decide (0≤r12))) (G9d O O O) O (Rc (BL (decide (0≤r12))) O (G7 (hK11 (JCc O h (fun h hb=>?_) (fun h hb=>?_))))))
   ·
    refine Jr fun hK13=>(JLh (E1 ([]:List Stowed)) (Hi 4 O O) O (Rc (G0 96) O (G7 (hK13 (Gv (⟨[E1 ([]:List Stowed),G0 96],[],G,O,⟨⟨_,O,.conv (.same O)⟩,⟨_,O,.conv (.same O)⟩,G⟩,O,congrArg (fun r:(List Stowed)×Int=>(.tup [E1 r.1,G0 r.2]:AV)) (Option.some.inj h)⟩))))))
   ·
    refine Jr fun hK14=>(JLh (.agg (Gt.cs s)) (Gh H7 O O O) O (JLh (.dptr ((Stowed.cs x).drop 1)) (Gb J7 O O O) O (JLh (.agg ((Stowed.cs x).drop 1)) (Gh Q4 O O O) O (JLh (.dptr ((Ga.cs r7.1).drop 2)) (Gb Y0 O O O) O (JLh (U8 r7.1.Size) (Gi Hw O O O) O ?_)))))
    obtain⟨r15,hr15,h⟩:=Gf h
    refine JLh (BL r15) (Gu O (H38 s x.Slot r7.1.Size r15 hr15) J1d ⟨O,O,O,O,O,O,G⟩) O (JLh (BL (!r15)) (Ze (b:=r15) O O) O (Rc (BL (!r15)) O (G7 (hK14 (JCc O h (fun h hb=>?_) (fun h hb=>?_))))))
    ·
     refine Jr fun hK16=>(JLh (E1 ([]:List Stowed)) (Hi 4 O O) O (Rc (G0 97) O (G7 (hK16 (Gv (⟨[E1 ([]:List Stowed),G0 97],[],G,O,⟨⟨_,O,.conv (.same O)⟩,⟨_,O,.conv (.same O)⟩,G⟩,O,congrArg (fun r:(List Stowed)×Int=>(.tup [E1 r.1,G0 r.2]:AV)) (Option.some.inj h)⟩))))))
    ·
     refine Gr (hK8 ?_)
     refine Jr fun hK17=>(JLh (.agg (Gt.cs s)) (Gh H7 O O O) O (Rc (E2 boxes) O (Rc (E1 l) O (Rc (E0 open_) O (JLh (.agg (Stowed.cs x)) (Gh Qx O O O) O (JLh (.agg [E7 s.Columns,E3 s.Covers,G0 s.Light.Kilos,G0 s.Light.X,G0 s.Light.Y,G0 s.Light.Z,E4 s.Rows,E5 s.Frames,E6 s.Tanks,G0 s.G2.Tolerance,G0 s.G2.Trim,G0 s.G2.List_,G0 s.G2.Stability,E2 boxes,E1 l,E0 open_,G0 x.Ga,G0 x.Slot.G3,G0 x.Slot.Tier,U8 x.Slot.Half]) (Hp (cs:=[E7 s.Columns,E3 s.Covers,G0 s.Light.Kilos,G0 s.Light.X,G0 s.Light.Y,G0 s.Light.Z,E4 s.Rows,E5 s.Frames,E6 s.Tanks,G0 s.G2.Tolerance,G0 s.G2.Trim,G0 s.G2.List_,G0 s.G2.Stability,E2 boxes,E1 l,E0 open_,G0 x.Ga,G0 x.Slot.G3,G0 x.Slot.Tier,U8 x.Slot.Half]) [(0,13),(13,1),(14,1),(15,1),(16,4)] [E7 ([]:List G3),E3 ([]:List G9),G0 0,G0 0,G0 0,G0 0,E4 ([]:List Row),E5 ([]:List Frame),E6 ([]:List Gm),G0 0,G0 0,G0 0,G0 0,E2 ([]:List Ga),E1 ([]:List Stowed),E0 ([]:List Int),G0 0,G0 0,G0 0,U8 0] [.slice none 0 0,.slice none 0 0,.int .i64 0,.int .i64 0,.int .i64 0,.int .i64 0,.slice none 0 0,.slice none 0 0,.slice none 0 0,.int .i64 0,.int .i64 0,.int .i64 0,.int .i64 0,.slice none 0 0,.slice none 0 0,.slice none 0 0,.int .i64 0,.int .i64 0,.int .i64 0,.int .u8 0] J72 J97 ⟨.inr ⟨_,O,O⟩,.inr ⟨_,O,O⟩,.inl O,.inl O,.inl O,.inl O,.inr ⟨_,O,O⟩,.inr ⟨_,O,O⟩,.inr ⟨_,O,O⟩,.inl O,.inl O,.inl O,.inl O,.inr ⟨_,O,O⟩,.inr ⟨_,O,O⟩,.inr ⟨_,O,O⟩,.inl O,.inl O,.inl O,.inl O,G⟩ O O) O (JLh (.ptr 1045 0) (Hs 1045 20 J79 O O) O (J0 (u:=.junk) (Hh (u:=.agg [E7 s.Columns,E3 s.Covers,G0 s.Light.Kilos,G0 s.Light.X,G0 s.Light.Y,G0 s.Light.Z,E4 s.Rows,E5 s.Frames,E6 s.Tanks,G0 s.G2.Tolerance,G0 s.G2.Trim,G0 s.G2.List_,G0 s.G2.Stability,E2 boxes,E1 l,E0 open_,G0 x.Ga,G0 x.Slot.G3,G0 x.Slot.Tier,U8 x.Slot.Half]) (ds:=[E7 s.Columns,E3 s.Covers,G0 s.Light.Kilos,G0 s.Light.X,G0 s.Light.Y,G0 s.Light.Z,E4 s.Rows,E5 s.Frames,E6 s.Tanks,G0 s.G2.Tolerance,G0 s.G2.Trim,G0 s.G2.List_,G0 s.G2.Stability,E2 boxes,E1 l,E0 open_,G0 x.Ga,G0 x.Slot.G3,G0 x.Slot.Tier,U8 x.Slot.Half]) J9a O O O O O O O O) (G7 (hK17 ?_))))))))))
     refine Gs [(14,.dptr [E7 s.Columns,E3 s.Covers,G0 s.Light.Kilos,G0 s.Light.X,G0 s.Light.Y,G0 s.Light.Z,E4 s.Rows,E5 s.Frames,E6 s.Tanks,G0 s.G2.Tolerance,G0 s.G2.Trim,G0 s.G2.List_,G0 s.G2.Stability,E2 boxes,E1 l,E0 open_,G0 x.Ga,G0 x.Slot.G3,G0 x.Slot.Tier,U8 x.Slot.Half])] [] 1045 rfl rfl rfl G rfl (by exact⟨.ptr,G⟩) (Js fun hK18=>?_)
     refine Jr fun hK19=>(JLh (.agg [E7 s.Columns,E3 s.Covers,G0 s.Light.Kilos,G0 s.Light.X,G0 s.Light.Y,G0 s.Light.Z,E4 s.Rows,E5 s.Frames,E6 s.Tanks,G0 s.G2.Tolerance,G0 s.G2.Trim,G0 s.G2.List_,G0 s.G2.Stability,E2 boxes,E1 l,E0 open_,G0 x.Ga,G0 x.Slot.G3,G0 x.Slot.Tier,U8 x.Slot.Half]) (Gh Gaf O O O) O (JLh (.bfn 39 [.agg [E7 s.Columns,E3 s.Covers,G0 s.Light.Kilos,G0 s.Light.X,G0 s.Light.Y,G0 s.Light.Z,E4 s.Rows,E5 s.Frames,E6 s.Tanks,G0 s.G2.Tolerance,G0 s.G2.Trim,G0 s.G2.List_,G0 s.G2.Stability,E2 boxes,E1 l,E0 open_,G0 x.Ga,G0 x.Slot.G3,G0 x.Slot.Tier,U8 x.Slot.Half]]) (Gd9 (cs:=[.agg [E7 s.Columns,E3 s.Covers,G0 s.Light.Kilos,G0 s.Light.X,G0 s.Light.Y,G0 s.Light.Z,E4 s.Rows,E5 s.Frames,E6 s.Tanks,G0 s.G2.Tolerance,G0 s.G2.Trim,G0 s.G2.List_,G0 s.G2.Stability,E2 boxes,E1 l,E0 open_,G0 x.Ga,G0 x.Slot.G3,G0 x.Slot.Tier,U8 x.Slot.Half]]) O O) O (JLh (.agg [E7 s.Columns,E3 s.Covers,G0 s.Light.Kilos,G0 s.Light.X,G0 s.Light.Y,G0 s.Light.Z,E4 s.Rows,E5 s.Frames,E6 s.Tanks,G0 s.G2.Tolerance,G0 s.G2.Trim,G0 s.G2.List_,G0 s.G2.Stability,E2 boxes,E1 l,E0 open_,G0 x.Ga,G0 x.Slot.G3,G0 x.Slot.Tier,U8 x.Slot.Half]) (Gh Gaf O O O) O (JLh (.bfn 40 [.agg [E7 s.Columns,E3 s.Covers,G0 s.Light.Kilos,G0 s.Light.X,G0 s.Light.Y,G0 s.Light.Z,E4 s.Rows,E5 s.Frames,E6 s.Tanks,G0 s.G2.Tolerance,G0 s.G2.Trim,G0 s.G2.List_,G0 s.G2.Stability,E2 boxes,E1 l,E0 open_,G0 x.Ga,G0 x.Slot.G3,G0 x.Slot.Tier,U8 x.Slot.Half]]) (Gd9 (cs:=[.agg [E7 s.Columns,E3 s.Covers,G0 s.Light.Kilos,G0 s.Light.X,G0 s.Light.Y,G0 s.Light.Z,E4 s.Rows,E5 s.Frames,E6 s.Tanks,G0 s.G2.Tolerance,G0 s.G2.Trim,G0 s.G2.List_,G0 s.G2.Stability,E2 boxes,E1 l,E0 open_,G0 x.Ga,G0 x.Slot.G3,G0 x.Slot.Tier,U8 x.Slot.Half]]) O O) O (JLh (.agg [E7 s.Columns,E3 s.Covers,G0 s.Light.Kilos,G0 s.Light.X,G0 s.Light.Y,G0 s.Light.Z,E4 s.Rows,E5 s.Frames,E6 s.Tanks,G0 s.G2.Tolerance,G0 s.G2.Trim,G0 s.G2.List_,G0 s.G2.Stability,E2 boxes,E1 l,E0 open_,G0 x.Ga,G0 x.Slot.G3,G0 x.Slot.Tier,U8 x.Slot.Half]) (Gh Gaf O O O) O (JLh (.bfn 41 [.agg [E7 s.Columns,E3 s.Covers,G0 s.Light.Kilos,G0 s.Light.X,G0 s.Light.Y,G0 s.Light.Z,E4 s.Rows,E5 s.Frames,E6 s.Tanks,G0 s.G2.Tolerance,G0 s.G2.Trim,G0 s.G2.List_,G0 s.G2.Stability,E2 boxes,E1 l,E0 open_,G0 x.Ga,G0 x.Slot.G3,G0 x.Slot.Tier,U8 x.Slot.Half]]) (Gd9 (cs:=[.agg [E7 s.Columns,E3 s.Covers,G0 s.Light.Kilos,G0 s.Light.X,G0 s.Light.Y,G0 s.Light.Z,E4 s.Rows,E5 s.Frames,E6 s.Tanks,G0 s.G2.Tolerance,G0 s.G2.Trim,G0 s.G2.List_,G0 s.G2.Stability,E2 boxes,E1 l,E0 open_,G0 x.Ga,G0 x.Slot.G3,G0 x.Slot.Tier,U8 x.Slot.Half]]) O O) O (JLh (.agg [E7 s.Columns,E3 s.Covers,G0 s.Light.Kilos,G0 s.Light.X,G0 s.Light.Y,G0 s.Light.Z,E4 s.Rows,E5 s.Frames,E6 s.Tanks,G0 s.G2.Tolerance,G0 s.G2.Trim,G0 s.G2.List_,G0 s.G2.Stability,E2 boxes,E1 l,E0 open_,G0 x.Ga,G0 x.Slot.G3,G0 x.Slot.Tier,U8 x.Slot.Half]) (Gh Gaf O O O) O (JLh (.bfn 42 [.agg [E7 s.Columns,E3 s.Covers,G0 s.Light.Kilos,G0 s.Light.X,G0 s.Light.Y,G0 s.Light.Z,E4 s.Rows,E5 s.Frames,E6 s.Tanks,G0 s.G2.Tolerance,G0 s.G2.Trim,G0 s.G2.List_,G0 s.G2.Stability,E2 boxes,E1 l,E0 open_,G0 x.Ga,G0 x.Slot.G3,G0 x.Slot.Tier,U8 x.Slot.Half]]) (Gd9 (cs:=[.agg [E7 s.Columns,E3 s.Covers,G0 s.Light.Kilos,G0 s.Light.X,G0 s.Light.Y,G0 s.Light.Z,E4 s.Rows,E5 s.Frames,E6 s.Tanks,G0 s.G2.Tolerance,G0 s.G2.Trim,G0 s.G2.List_,G0 s.G2.Stability,E2 boxes,E1 l,E0 open_,G0 x.Ga,G0 x.Slot.G3,G0 x.Slot.Tier,U8 x.Slot.Half]]) O O) O (JLh (.agg [.bfn 39 [.agg [E7 s.Columns,E3 s.Covers,G0 s.Light.Kilos,G0 s.Light.X,G0 s.Light.Y,G0 s.Light.Z,E4 s.Rows,E5 s.Frames,E6 s.Tanks,G0 s.G2.Tolerance,G0 s.G2.Trim,G0 s.G2.List_,G0 s.G2.Stability,E2 boxes,E1 l,E0 open_,G0 x.Ga,G0 x.Slot.G3,G0 x.Slot.Tier,U8 x.Slot.Half]],.bfn 40 [.agg [E7 s.Columns,E3 s.Covers,G0 s.Light.Kilos,G0 s.Light.X,G0 s.Light.Y,G0 s.Light.Z,E4 s.Rows,E5 s.Frames,E6 s.Tanks,G0 s.G2.Tolerance,G0 s.G2.Trim,G0 s.G2.List_,G0 s.G2.Stability,E2 boxes,E1 l,E0 open_,G0 x.Ga,G0 x.Slot.G3,G0 x.Slot.Tier,U8 x.Slot.Half]],.bfn 41 [.agg [E7 s.Columns,E3 s.Covers,G0 s.Light.Kilos,G0 s.Light.X,G0 s.Light.Y,G0 s.Light.Z,E4 s.Rows,E5 s.Frames,E6 s.Tanks,G0 s.G2.Tolerance,G0 s.G2.Trim,G0 s.G2.List_,G0 s.G2.Stability,E2 boxes,E1 l,E0 open_,G0 x.Ga,G0 x.Slot.G3,G0 x.Slot.Tier,U8 x.Slot.Half]],.bfn 42 [.agg [E7 s.Columns,E3 s.Covers,G0 s.Light.Kilos,G0 s.Light.X,G0 s.Light.Y,G0 s.Light.Z,E4 s.Rows,E5 s.Frames,E6 s.Tanks,G0 s.G2.Tolerance,G0 s.G2.Trim,G0 s.G2.List_,G0 s.G2.Stability,E2 boxes,E1 l,E0 open_,G0 x.Ga,G0 x.Slot.G3,G0 x.Slot.Tier,U8 x.Slot.Half]]]) (H79 (cs:=[.bfn 39 [.agg [E7 s.Columns,E3 s.Covers,G0 s.Light.Kilos,G0 s.Light.X,G0 s.Light.Y,G0 s.Light.Z,E4 s.Rows,E5 s.Frames,E6 s.Tanks,G0 s.G2.Tolerance,G0 s.G2.Trim,G0 s.G2.List_,G0 s.G2.Stability,E2 boxes,E1 l,E0 open_,G0 x.Ga,G0 x.Slot.G3,G0 x.Slot.Tier,U8 x.Slot.Half]],.bfn 40 [.agg [E7 s.Columns,E3 s.Covers,G0 s.Light.Kilos,G0 s.Light.X,G0 s.Light.Y,G0 s.Light.Z,E4 s.Rows,E5 s.Frames,E6 s.Tanks,G0 s.G2.Tolerance,G0 s.G2.Trim,G0 s.G2.List_,G0 s.G2.Stability,E2 boxes,E1 l,E0 open_,G0 x.Ga,G0 x.Slot.G3,G0 x.Slot.Tier,U8 x.Slot.Half]],.bfn 41 [.agg [E7 s.Columns,E3 s.Covers,G0 s.Light.Kilos,G0 s.Light.X,G0 s.Light.Y,G0 s.Light.Z,E4 s.Rows,E5 s.Frames,E6 s.Tanks,G0 s.G2.Tolerance,G0 s.G2.Trim,G0 s.G2.List_,G0 s.G2.Stability,E2 boxes,E1 l,E0 open_,G0 x.Ga,G0 x.Slot.G3,G0 x.Slot.Tier,U8 x.Slot.Half]],.bfn 42 [.agg [E7 s.Columns,E3 s.Covers,G0 s.Light.Kilos,G0 s.Light.X,G0 s.Light.Y,G0 s.Light.Z,E4 s.Rows,E5 s.Frames,E6 s.Tanks,G0 s.G2.Tolerance,G0 s.G2.Trim,G0 s.G2.List_,G0 s.G2.Stability,E2 boxes,E1 l,E0 open_,G0 x.Ga,G0 x.Slot.G3,G0 x.Slot.Tier,U8 x.Slot.Half]]]) [.nilFunc,.nilFunc,.nilFunc,.nilFunc] tf_arr_99 J96 O O) O (Rc (G0 0) O (G7 (hK19 ?_))))))))))))
     refine Gx ?_
     obtain⟨hx60,h⟩:=Jk h
     obtain⟨b60,kx60,hb60,hkx60,h⟩:=upto_in h
     refine Hz (fun i60 (s60:Unit)=>upto b60 kx60 ((4:Int).toNat - i60) i60 s60=some r) (fun i60 s60=>[(14,.dptr [E7 s.Columns,E3 s.Covers,G0 s.Light.Kilos,G0 s.Light.X,G0 s.Light.Y,G0 s.Light.Z,E4 s.Rows,E5 s.Frames,E6 s.Tanks,G0 s.G2.Tolerance,G0 s.G2.Trim,G0 s.G2.List_,G0 s.G2.Stability,E2 boxes,E1 l,E0 open_,G0 x.Ga,G0 x.Slot.G3,G0 x.Slot.Tier,U8 x.Slot.Half]),(71,.agg [.bfn 39 [.agg [E7 s.Columns,E3 s.Covers,G0 s.Light.Kilos,G0 s.Light.X,G0 s.Light.Y,G0 s.Light.Z,E4 s.Rows,E5 s.Frames,E6 s.Tanks,G0 s.G2.Tolerance,G0 s.G2.Trim,G0 s.G2.List_,G0 s.G2.Stability,E2 boxes,E1 l,E0 open_,G0 x.Ga,G0 x.Slot.G3,G0 x.Slot.Tier,U8 x.Slot.Half]],.bfn 40 [.agg [E7 s.Columns,E3 s.Covers,G0 s.Light.Kilos,G0 s.Light.X,G0 s.Light.Y,G0 s.Light.Z,E4 s.Rows,E5 s.Frames,E6 s.Tanks,G0 s.G2.Tolerance,G0 s.G2.Trim,G0 s.G2.List_,G0 s.G2.Stability,E2 boxes,E1 l,E0 open_,G0 x.Ga,G0 x.Slot.G3,G0 x.Slot.Tier,U8 x.Slot.Half]],.bfn 41 [.agg [E7 s.Columns,E3 s.Covers,G0 s.Light.Kilos,G0 s.Light.X,G0 s.Light.Y,G0 s.Light.Z,E4 s.Rows,E5 s.Frames,E6 s.Tanks,G0 s.G2.Tolerance,G0 s.G2.Trim,G0 s.G2.List_,G0 s.G2.Stability,E2 boxes,E1 l,E0 open_,G0 x.Ga,G0 x.Slot.G3,G0 x.Slot.Tier,U8 x.Slot.Half]],.bfn 42 [.agg [E7 s.Columns,E3 s.Covers,G0 s.Light.Kilos,G0 s.Light.X,G0 s.Light.Y,G0 s.Light.Z,E4 s.Rows,E5 s.Frames,E6 s.Tanks,G0 s.G2.Tolerance,G0 s.G2.Trim,G0 s.G2.List_,G0 s.G2.Stability,E2 boxes,E1 l,E0 open_,G0 x.Ga,G0 x.Slot.G3,G0 x.Slot.Tier,U8 x.Slot.Half]]]),(72,Ej i60)]) (fun i60 s60=>[]) (fun i60=>(4:Int).toNat - i60) 0 () h ⟨⟨.same O,.same O,.same O,G⟩,G,O⟩ ?_
     clear h
     intro i60 s60 hi60 K60 e60
     refine Jr fun hK61=>(JLh (BL (decide ((i60:Int) < 4))) (Jt O O O) O (G7 (hK61 (Js fun hK62=>Gp O (fun hb=>?_) (fun hb=>?_)))))
     ·
      have hk60:=J39 hb
      obtain⟨nx60,hn60,h⟩:=Hfe hi60 hk60
      replace h:=app3 hb60 h
      refine Gr (hK62 ?_)
      obtain⟨kj63,hkj63,h⟩:=Yh h
      refine R5 (fun j63:Unit=>kj63 j63=some r) (fun j63=>[(14,.dptr [E7 s.Columns,E3 s.Covers,G0 s.Light.Kilos,G0 s.Light.X,G0 s.Light.Y,G0 s.Light.Z,E4 s.Rows,E5 s.Frames,E6 s.Tanks,G0 s.G2.Tolerance,G0 s.G2.Trim,G0 s.G2.List_,G0 s.G2.Stability,E2 boxes,E1 l,E0 open_,G0 x.Ga,G0 x.Slot.G3,G0 x.Slot.Tier,U8 x.Slot.Half]),(71,.agg [.bfn 39 [.agg [E7 s.Columns,E3 s.Covers,G0 s.Light.Kilos,G0 s.Light.X,G0 s.Light.Y,G0 s.Light.Z,E4 s.Rows,E5 s.Frames,E6 s.Tanks,G0 s.G2.Tolerance,G0 s.G2.Trim,G0 s.G2.List_,G0 s.G2.Stability,E2 boxes,E1 l,E0 open_,G0 x.Ga,G0 x.Slot.G3,G0 x.Slot.Tier,U8 x.Slot.Half]],.bfn 40 [.agg [E7 s.Columns,E3 s.Covers,G0 s.Light.Kilos,G0 s.Light.X,G0 s.Light.Y,G0 s.Light.Z,E4 s.Rows,E5 s.Frames,E6 s.Tanks,G0 s.G2.Tolerance,G0 s.G2.Trim,G0 s.G2.List_,G0 s.G2.Stability,E2 boxes,E1 l,E0 open_,G0 x.Ga,G0 x.Slot.G3,G0 x.Slot.Tier,U8 x.Slot.Half]],.bfn 41 [.agg [E7 s.Columns,E3 s.Covers,G0 s.Light.Kilos,G0 s.Light.X,G0 s.Light.Y,G0 s.Light.Z,E4 s.Rows,E5 s.Frames,E6 s.Tanks,G0 s.G2.Tolerance,G0 s.G2.Trim,G0 s.G2.List_,G0 s.G2.Stability,E2 boxes,E1 l,E0 open_,G0 x.Ga,G0 x.Slot.G3,G0 x.Slot.Tier,U8 x.Slot.Half]],.bfn 42 [.agg [E7 s.Columns,E3 s.Covers,G0 s.Light.Kilos,G0 s.Light.X,G0 s.Light.Y,G0 s.Light.Z,E4 s.Rows,E5 s.Frames,E6 s.Tanks,G0 s.G2.Tolerance,G0 s.G2.Trim,G0 s.G2.List_,G0 s.G2.Stability,E2 boxes,E1 l,E0 open_,G0 x.Ga,G0 x.Slot.G3,G0 x.Slot.Tier,U8 x.Slot.Half]]]),(72,Ej i60)]) (fun j63=>[]) (fun Kj63 ej63=>?_) ?_
      ·
       refine Gx (Jr fun hK64=>(Rc (Ej i60) O ((Decidable.em ((i60:Int)=0)).elim (fun hq65_0=>?_) (fun hq65_0=>?_))))
       ·
        replace h:=H4 (decide_eq_true hq65_0) h
        refine JLh (.bfn 39 [.agg [E7 s.Columns,E3 s.Covers,G0 s.Light.Kilos,G0 s.Light.X,G0 s.Light.Y,G0 s.Light.Z,E4 s.Rows,E5 s.Frames,E6 s.Tanks,G0 s.G2.Tolerance,G0 s.G2.Trim,G0 s.G2.List_,G0 s.G2.Stability,E2 boxes,E1 l,E0 open_,G0 x.Ga,G0 x.Slot.G3,G0 x.Slot.Tier,U8 x.Slot.Half]]) (H4b (j:=0) H3e O O O hq65_0 O O) O (Rc (Ej i60) O (Rc (.bfn 39 [.agg [E7 s.Columns,E3 s.Covers,G0 s.Light.Kilos,G0 s.Light.X,G0 s.Light.Y,G0 s.Light.Z,E4 s.Rows,E5 s.Frames,E6 s.Tanks,G0 s.G2.Tolerance,G0 s.G2.Trim,G0 s.G2.List_,G0 s.G2.Stability,E2 boxes,E1 l,E0 open_,G0 x.Ga,G0 x.Slot.G3,G0 x.Slot.Tier,U8 x.Slot.Half]]) O (G7 (hK64 ?_))))
        refine Jr fun hK66=>(Rc (.bfn 39 [.agg [E7 s.Columns,E3 s.Covers,G0 s.Light.Kilos,G0 s.Light.X,G0 s.Light.Y,G0 s.Light.Z,E4 s.Rows,E5 s.Frames,E6 s.Tanks,G0 s.G2.Tolerance,G0 s.G2.Trim,G0 s.G2.List_,G0 s.G2.Stability,E2 boxes,E1 l,E0 open_,G0 x.Ga,G0 x.Slot.G3,G0 x.Slot.Tier,U8 x.Slot.Half]]) O ?_)
        obtain⟨r67,hr67,h⟩:=Gf h
        refine JLh (BL r67) (H4c (args:=[]) (firsts:=[.agg [E7 s.Columns,E3 s.Covers,G0 s.Light.Kilos,G0 s.Light.X,G0 s.Light.Y,G0 s.Light.Z,E4 s.Rows,E5 s.Frames,E6 s.Tanks,G0 s.G2.Tolerance,G0 s.G2.Trim,G0 s.G2.List_,G0 s.G2.Stability,E2 boxes,E1 l,E0 open_,G0 x.Ga,G0 x.Slot.G3,G0 x.Slot.Tier,U8 x.Slot.Half]]) O O (H1b (Hd.mk s boxes l open_ x) r67 hr67) Jba G O) O (G7 (hK66 (JCc O h (fun h hb=>?_) (fun h hb=>?_))))
        ·
         refine Jr fun hK68=>(Rc (Ej i60) O ?_)
         obtain⟨v69,hv69,h⟩:=Jc h
         refine JLh (G0 v69) (Hv hv69 O O O) O (JLh (E1 ([]:List Stowed)) (Hi 4 O O) O (Rc (G0 v69) O (G7 (hK68 (Gv (⟨[E1 ([]:List Stowed),G0 v69],[],G,O,⟨⟨_,O,.conv (.same O)⟩,⟨_,O,.conv (.same O)⟩,G⟩,O,congrArg (fun r:(List Stowed)×Int=>(.tup [E1 r.1,G0 r.2]:AV)) (Option.some.inj h)⟩))))))
        ·
         refine Gr (ej63 _ _ () h ⟨⟨.same O,.same O,.same O,G⟩,G,O⟩)
       ·
        replace h:=Hk (decide_eq_false hq65_0) h
        refine(Decidable.em ((i60:Int)=1)).elim (fun hq65_1=>?_) (fun hq65_1=>?_)
        ·
         replace h:=H4 (decide_eq_true hq65_1) h
         refine JLh (.bfn 40 [.agg [E7 s.Columns,E3 s.Covers,G0 s.Light.Kilos,G0 s.Light.X,G0 s.Light.Y,G0 s.Light.Z,E4 s.Rows,E5 s.Frames,E6 s.Tanks,G0 s.G2.Tolerance,G0 s.G2.Trim,G0 s.G2.List_,G0 s.G2.Stability,E2 boxes,E1 l,E0 open_,G0 x.Ga,G0 x.Slot.G3,G0 x.Slot.Tier,U8 x.Slot.Half]]) (H4b (j:=1) H3e O O O hq65_1 O O) O (Rc (Ej i60) O (Rc (.bfn 40 [.agg [E7 s.Columns,E3 s.Covers,G0 s.Light.Kilos,G0 s.Light.X,G0 s.Light.Y,G0 s.Light.Z,E4 s.Rows,E5 s.Frames,E6 s.Tanks,G0 s.G2.Tolerance,G0 s.G2.Trim,G0 s.G2.List_,G0 s.G2.Stability,E2 boxes,E1 l,E0 open_,G0 x.Ga,G0 x.Slot.G3,G0 x.Slot.Tier,U8 x.Slot.Half]]) O (G7 (hK64 ?_))))
         refine Jr fun hK70=>(Rc (.bfn 40 [.agg [E7 s.Columns,E3 s.Covers,G0 s.Light.Kilos,G0 s.Light.X,G0 s.Light.Y,G0 s.Light.Z,E4 s.Rows,E5 s.Frames,E6 s.Tanks,G0 s.G2.Tolerance,G0 s.G2.Trim,G0 s.G2.List_,G0 s.G2.Stability,E2 boxes,E1 l,E0 open_,G0 x.Ga,G0 x.Slot.G3,G0 x.Slot.Tier,U8 x.Slot.Half]]) O ?_)
         obtain⟨r71,hr71,h⟩:=Gf h
         refine JLh (BL r71) (H4c (args:=[]) (firsts:=[.agg [E7 s.Columns,E3 s.Covers,G0 s.Light.Kilos,G0 s.Light.X,G0 s.Light.Y,G0 s.Light.Z,E4 s.Rows,E5 s.Frames,E6 s.Tanks,G0 s.G2.Tolerance,G0 s.G2.Trim,G0 s.G2.List_,G0 s.G2.Stability,E2 boxes,E1 l,E0 open_,G0 x.Ga,G0 x.Slot.G3,G0 x.Slot.Tier,U8 x.Slot.Half]]) O O (H36 (Hd.mk s boxes l open_ x) r71 hr71) Jb9 G O) O (G7 (hK70 (JCc O h (fun h hb=>?_) (fun h hb=>?_))))
         ·
          refine Jr fun hK72=>(Rc (Ej i60) O ?_)
          obtain⟨v73,hv73,h⟩:=Jc h
          refine JLh (G0 v73) (Hv hv73 O O O) O (JLh (E1 ([]:List Stowed)) (Hi 4 O O) O (Rc (G0 v73) O (G7 (hK72 (Gv (⟨[E1 ([]:List Stowed),G0 v73],[],G,O,⟨⟨_,O,.conv (.same O)⟩,⟨_,O,.conv (.same O)⟩,G⟩,O,congrArg (fun r:(List Stowed)×Int=>(.tup [E1 r.1,G0 r.2]:AV)) (Option.some.inj h)⟩))))))
         ·
          refine Gr (ej63 _ _ () h ⟨⟨.same O,.same O,.same O,G⟩,G,O⟩)
        ·
         replace h:=Hk (decide_eq_false hq65_1) h
         refine(Decidable.em ((i60:Int)=2)).elim (fun hq65_2=>?_) (fun hq65_2=>?_)
         ·
          replace h:=H4 (decide_eq_true hq65_2) h
          refine JLh (.bfn 41 [.agg [E7 s.Columns,E3 s.Covers,G0 s.Light.Kilos,G0 s.Light.X,G0 s.Light.Y,G0 s.Light.Z,E4 s.Rows,E5 s.Frames,E6 s.Tanks,G0 s.G2.Tolerance,G0 s.G2.Trim,G0 s.G2.List_,G0 s.G2.Stability,E2 boxes,E1 l,E0 open_,G0 x.Ga,G0 x.Slot.G3,G0 x.Slot.Tier,U8 x.Slot.Half]]) (H4b (j:=2) H3e O O O hq65_2 O O) O (Rc (Ej i60) O (Rc (.bfn 41 [.agg [E7 s.Columns,E3 s.Covers,G0 s.Light.Kilos,G0 s.Light.X,G0 s.Light.Y,G0 s.Light.Z,E4 s.Rows,E5 s.Frames,E6 s.Tanks,G0 s.G2.Tolerance,G0 s.G2.Trim,G0 s.G2.List_,G0 s.G2.Stability,E2 boxes,E1 l,E0 open_,G0 x.Ga,G0 x.Slot.G3,G0 x.Slot.Tier,U8 x.Slot.Half]]) O (G7 (hK64 ?_))))
          refine Jr fun hK74=>(Rc (.bfn 41 [.agg [E7 s.Columns,E3 s.Covers,G0 s.Light.Kilos,G0 s.Light.X,G0 s.Light.Y,G0 s.Light.Z,E4 s.Rows,E5 s.Frames,E6 s.Tanks,G0 s.G2.Tolerance,G0 s.G2.Trim,G0 s.G2.List_,G0 s.G2.Stability,E2 boxes,E1 l,E0 open_,G0 x.Ga,G0 x.Slot.G3,G0 x.Slot.Tier,U8 x.Slot.Half]]) O ?_)
          obtain⟨r75,hr75,h⟩:=Gf h
          refine JLh (BL r75) (H4c (args:=[]) (firsts:=[.agg [E7 s.Columns,E3 s.Covers,G0 s.Light.Kilos,G0 s.Light.X,G0 s.Light.Y,G0 s.Light.Z,E4 s.Rows,E5 s.Frames,E6 s.Tanks,G0 s.G2.Tolerance,G0 s.G2.Trim,G0 s.G2.List_,G0 s.G2.Stability,E2 boxes,E1 l,E0 open_,G0 x.Ga,G0 x.Slot.G3,G0 x.Slot.Tier,U8 x.Slot.Half]]) O O (H10 (Hd.mk s boxes l open_ x) r75 hr75) Jb8 G O) O (G7 (hK74 (JCc O h (fun h hb=>?_) (fun h hb=>?_))))
          ·
           refine Jr fun hK76=>(Rc (Ej i60) O ?_)
           obtain⟨v77,hv77,h⟩:=Jc h
           refine JLh (G0 v77) (Hv hv77 O O O) O (JLh (E1 ([]:List Stowed)) (Hi 4 O O) O (Rc (G0 v77) O (G7 (hK76 (Gv (⟨[E1 ([]:List Stowed),G0 v77],[],G,O,⟨⟨_,O,.conv (.same O)⟩,⟨_,O,.conv (.same O)⟩,G⟩,O,congrArg (fun r:(List Stowed)×Int=>(.tup [E1 r.1,G0 r.2]:AV)) (Option.some.inj h)⟩))))))
          ·
           refine Gr (ej63 _ _ () h ⟨⟨.same O,.same O,.same O,G⟩,G,O⟩)
         ·
          replace h:=Hk (decide_eq_false hq65_2) h
          refine(Decidable.em ((i60:Int)=3)).elim (fun hq65_3=>?_) (fun hq65_3=>?_)
          ·
           replace h:=H4 (decide_eq_true hq65_3) h
           refine JLh (.bfn 42 [.agg [E7 s.Columns,E3 s.Covers,G0 s.Light.Kilos,G0 s.Light.X,G0 s.Light.Y,G0 s.Light.Z,E4 s.Rows,E5 s.Frames,E6 s.Tanks,G0 s.G2.Tolerance,G0 s.G2.Trim,G0 s.G2.List_,G0 s.G2.Stability,E2 boxes,E1 l,E0 open_,G0 x.Ga,G0 x.Slot.G3,G0 x.Slot.Tier,U8 x.Slot.Half]]) (H4b (j:=3) H3e O O O hq65_3 O O) O (Rc (Ej i60) O (Rc (.bfn 42 [.agg [E7 s.Columns,E3 s.Covers,G0 s.Light.Kilos,G0 s.Light.X,G0 s.Light.Y,G0 s.Light.Z,E4 s.Rows,E5 s.Frames,E6 s.Tanks,G0 s.G2.Tolerance,G0 s.G2.Trim,G0 s.G2.List_,G0 s.G2.Stability,E2 boxes,E1 l,E0 open_,G0 x.Ga,G0 x.Slot.G3,G0 x.Slot.Tier,U8 x.Slot.Half]]) O (G7 (hK64 ?_))))
           refine Jr fun hK78=>(Rc (.bfn 42 [.agg [E7 s.Columns,E3 s.Covers,G0 s.Light.Kilos,G0 s.Light.X,G0 s.Light.Y,G0 s.Light.Z,E4 s.Rows,E5 s.Frames,E6 s.Tanks,G0 s.G2.Tolerance,G0 s.G2.Trim,G0 s.G2.List_,G0 s.G2.Stability,E2 boxes,E1 l,E0 open_,G0 x.Ga,G0 x.Slot.G3,G0 x.Slot.Tier,U8 x.Slot.Half]]) O ?_)
           obtain⟨r79,hr79,h⟩:=Gf h
           refine JLh (BL r79) (H4c (args:=[]) (firsts:=[.agg [E7 s.Columns,E3 s.Covers,G0 s.Light.Kilos,G0 s.Light.X,G0 s.Light.Y,G0 s.Light.Z,E4 s.Rows,E5 s.Frames,E6 s.Tanks,G0 s.G2.Tolerance,G0 s.G2.Trim,G0 s.G2.List_,G0 s.G2.Stability,E2 boxes,E1 l,E0 open_,G0 x.Ga,G0 x.Slot.G3,G0 x.Slot.Tier,U8 x.Slot.Half]]) O O (H1c F (Hd.mk s boxes l open_ x) r79 hr79) Jb7 G O) O (G7 (hK78 (JCc O h (fun h hb=>?_) (fun h hb=>?_))))
           ·
            refine Jr fun hK80=>(Rc (Ej i60) O ?_)
            obtain⟨v81,hv81,h⟩:=Jc h
            refine JLh (G0 v81) (Hv hv81 O O O) O (JLh (E1 ([]:List Stowed)) (Hi 4 O O) O (Rc (G0 v81) O (G7 (hK80 (Gv (⟨[E1 ([]:List Stowed),G0 v81],[],G,O,⟨⟨_,O,.conv (.same O)⟩,⟨_,O,.conv (.same O)⟩,G⟩,O,congrArg (fun r:(List Stowed)×Int=>(.tup [E1 r.1,G0 r.2]:AV)) (Option.some.inj h)⟩))))))
           ·
            refine Gr (ej63 _ _ () h ⟨⟨.same O,.same O,.same O,G⟩,G,O⟩)
          ·
           replace h:=Hk (decide_eq_false hq65_3) h
           cases h
      ·intro j63 h
       replace h:=app1 hkj63 h
       refine G4 (JLh (G0 ((i60+1:Nat):Int)) (Hv (Hr hk60 (Ha3 hx60)) O O O) O (Rc (G0 ((i60+1:Nat):Int)) O (G7 (e60 _ _ (i60+1) () (app1 hn60 h) (by omega) ⟨⟨.same rfl,.same rfl,.same rfl,G⟩,G,rfl⟩))))
     ·
      have h:=app1 hkx60 (Hff hi60 (H06 hb))
      refine J6 (hK18 (Jr fun hK82=>(JLh (.agg [E7 s.Columns,E3 s.Covers,G0 s.Light.Kilos,G0 s.Light.X,G0 s.Light.Y,G0 s.Light.Z,E4 s.Rows,E5 s.Frames,E6 s.Tanks,G0 s.G2.Tolerance,G0 s.G2.Trim,G0 s.G2.List_,G0 s.G2.Stability,E2 boxes,E1 l,E0 open_,G0 x.Ga,G0 x.Slot.G3,G0 x.Slot.Tier,U8 x.Slot.Half]) (Gh Gaf O O O) O ?_)))
      obtain⟨r83,hr83,h⟩:=Gf h
      refine JLh (E1 r83) (Gu O (G55 F (Hd.mk s boxes l open_ x) r83 hr83) J1c ⟨O,O,G⟩) O (Rc (E1 r83) O (Rc (G0 0) O (G7 (hK82 (Gv (⟨[E1 r83,G0 0],[],G,O,⟨⟨_,O,.conv (.same O)⟩,⟨_,O,.conv (.same O)⟩,G⟩,O,congrArg (fun r:(List Stowed)×Int=>(.tup [E1 r.1,G0 r.2]:AV)) (Option.some.inj h)⟩))))))

def J9 (a:List Int) (b:List Int):Option Bool:=
 bif decide ((a.length:Int)≠(b.length:Int)) then
 (some false)
 else
 (each (fun y24 i24 (s24:Unit) nx24=>
   Yn b (i24:Int) fun y29=>
   bif decide (y24≠y29) then
   (some false)
   else
   (nx24 ()))
  (fun(s24:Unit)=>
   some true) a 0 ())
theorem Qe (a:List Int) (b:List Int) (r:Bool) (h:J9 a b=some r):Pure Ek 12 [E0 a,E0 b] (·=BL r):=by
 unfold J9 at h
 refine H5 [.tmp 4] Tryz.func12 O O (Jr fun hK1=>(Rc (BL false) O (G7 (hK1 (Js fun hK2=>Jr fun hK3=>(Rc (E0 a) O (JLl Gq O O O fun hm7=>(Rc (E0 b) O (JLl Gq O O O fun hm9=>(JLh (BL (decide ((a.length:Int)≠(b.length:Int)))) (G38 O O O) O (G7 (hK3 (JCc O h (fun h hb=>?_) (fun h hb=>?_))))))))))))))
 ·
  refine Jr fun hK4=>(Rc (BL false) O (G7 (hK4 (Gv (fin1 BL h)))))
 ·
  refine Gr (hK2 (Js fun hK5=>Jr fun hK6=>(Rc (G0 0) O (G7 (hK6 (Gx ?_))))))
  obtain⟨b24,kx24,hb24,hkx24,h⟩:=Jh h
  refine Hz (fun i24 (s24:Unit)=>each b24 kx24 (List.drop i24 a) i24 s24=some r) (fun i24 s24=>[(0,E0 a),(1,E0 b),(5,Ej i24)]) (fun i24 s24=>[]) (fun i24=>a.length - i24) 0 () h ⟨⟨.same O,.same O,.same O,G⟩,G,O⟩ ?_
  clear h
  intro i24 s24 hi24 K24 e24
  refine Js fun hK25=>Jr fun hK26=>(Rc (Ej i24) O (Rc (E0 a) O (JLl Gq O O O fun hm13=>(JLh (BL (decide ((i24:Int) < (a.length:Int)))) (Jt O O O) O (G7 (hK26 (Gp O (fun hb=>?_) (fun hb=>?_))))))))
  ·
   have hk24:=Q7 hb
   obtain⟨y24,nx24,hy24,hn24,h⟩:=J1 hi24 hk24
   replace h:=Zj hb24 h
   refine Gr (hK25 (Js fun hK27=>Gx (Js fun hK28=>?_)))
   obtain⟨m30,y29,hm30,hy29,h⟩:=Rh h
   refine JC_d0 Jz (by kernel_rfl) (Dq (E0 a) (G5 O O) O (Dq (Ej i24) (G5 O O) O (Dq (.dptr [G0 y24]) (H9 (f:=G0) (xs:=a) (y:=y24) O O O Gq hy24 O) O (Dq (G0 y24) (Gi Gd O O O) O (Dq (E0 b) (G5 O O) O (Dq (Ej i24) (G5 O O) O (Dq (.dptr [G0 y29]) (H9 (f:=G0) (xs:=b) (y:=y29) O O O Gq hy29 hm30) O (Dq (G0 y29) (Gi Gd O O O) O (Dq (BL (decide (y24≠y29))) (G38 O O O) O (Dnil (hK28 (JCc O h (fun h hb=>?_) (fun h hb=>?_)))))))))))))
   ·
    refine Jr fun hK31=>(Rc (BL false) O (G7 (hK31 (Gv (fin1 BL h)))))
   ·
    refine Gr (hK27 (G4 (Rc (Ej i24) O (JLh (G0 ((i24+1:Nat):Int)) (Hv (Hr hk24 hm13) O O O) O (Rc (G0 ((i24+1:Nat):Int)) O (G7 (e24 _ _ (i24+1) () (app1 hn24 h) (by omega) ⟨⟨.same rfl,.same rfl,.same rfl,G⟩,G,rfl⟩)))))))
  ·
   have h:=app1 hkx24 (J2 hi24 (Hg hb))
   refine J6 (hK5 (Jr fun hK32=>(Rc (BL true) O (G7 (hK32 (Gv (fin1 BL h)))))))

def Rr (s:Gt) (boxes:List Ga) (l:List Stowed) (open_:List Int) (id_:Int):Option Int:=
 bnd (Qa s boxes l open_) fun r4=>
 bif (!r4) then
 (some 2)
 else
 (bnd (Zc l id_) fun r7=>
  bif decide (r7.2≠0) then
  (some r7.2)
  else
  (bif decide (0 < (r7.1.length:Int)) then
   (some 90)
   else
   (bnd (R8 l id_) fun r15=>
    Yn l r15 fun y16=>
    bnd (G2e s y16.Slot.G3) fun r18=>
    bnd (bif decide (0≤r18) then Qj open_ r18 else some default) fun r20=>
    bif ((decide (0≤r18))&&(!r20)) then
    (some 91)
    else
    (some 0))))
theorem Zm (s:Gt) (boxes:List Ga) (l:List Stowed) (open_:List Int) (id_:Int) (r:Int) (h:Rr s boxes l open_ id_=some r):Pure Ek 15 [.agg (Gt.cs s),E2 boxes,E1 l,E0 open_,G0 id_] (·=G0 r):=by
 unfold Rr at h
 refine H5 [.tmp 10] Tryz.func15 O O (Jr fun hK1=>(JLh (.ptr 1041 0) (Q1 (cs:=(Gt.cs s)) 1041 O O O O O) O (Rc (G0 0) O (G7 (hK1 (Gs [(1,E2 boxes),(2,E1 l),(3,E0 open_),(4,G0 id_),(5,Ec s)] [] 1041 rfl rfl rfl G rfl (by repeat' (first | exact .ptr | constructor)) ?_))))))
 refine Js fun hK2=>Jr fun hK3=>(JLh (.agg (Gt.cs s)) (Gh H7 O O O) O (Rc (E2 boxes) O (Rc (E1 l) O (Rc (E0 open_) O ?_))))
 obtain⟨r4,hr4,h⟩:=Gf h
 refine JLh (BL r4) (Gu O (Zu s boxes l open_ r4 hr4) Gb4 ⟨O,O,O,O,O,O,O,O,G⟩) O (JLh (BL (!r4)) (Ze (b:=r4) O O) O (G7 (hK3 (JCc O h (fun h hb=>?_) (fun h hb=>?_)))))
 ·
  refine Jr fun hK5=>(Rc (G0 2) O (G7 (hK5 (Gv (fin1 G0 h)))))
 ·
  refine Gr (hK2 (Jr fun hK6=>(Rc (E1 l) O (Rc (G0 id_) O ?_))))
  obtain⟨r7,hr7,h⟩:=Gf h
  refine JLh (.tup [E0 r7.1,G0 r7.2]) (Gu O (Gc4 l id_ r7 hr7) H64 ⟨O,O,O,O,G⟩) O (Rc (.tup [E0 r7.1,G0 r7.2]) O (JLh (E0 r7.1) (H2 O O O) O (JLh (G0 r7.2) (H2 O O O) O (Rc (E0 r7.1) O (Rc (G0 r7.2) O (G7 (hK6 (Js fun hK8=>Gx (Jr fun hK9=>(Rc (G0 r7.2) O (JLh (BL (decide (r7.2≠0))) (G38 O O O) O (Rc (BL (decide (r7.2≠0))) O (G7 (hK9 (JCc O h (fun h hb=>?_) (fun h hb=>?_))))))))))))))))
  ·
   refine Jr fun hK10=>(Rc (G0 r7.2) O (Rc (G0 r7.2) O (G7 (hK10 (Gv (fin1 G0 h))))))
  ·
   refine Jr fun hK11=>(Rc (E0 r7.1) O (JLl Gq O O O fun hm32=>(JLh (BL (decide (0 < (r7.1.length:Int)))) (G9c O O O) O (Rc (BL (decide (0 < (r7.1.length:Int)))) O (G7 (hK11 (JCc O h (fun h hb=>?_) (fun h hb=>?_))))))))
   ·
    refine Jr fun hK12=>(Rc (G0 90) O (G7 (hK12 (Gv (fin1 G0 h)))))
   ·
    refine Gr (hK8 (Js fun hK13=>Js fun hK14=>?_))
    obtain⟨r15,hr15,h⟩:=Gf h
    obtain⟨m17,y16,hm17,hy16,h⟩:=Rh h
    obtain⟨r18,hr18,h⟩:=Gf h
    refine JC_d0 Jz (by kernel_rfl) (Dq (.agg (Gt.cs s)) (Gh H7 O O O) O (Dq (E1 l) (G5 O O) O (Dq (E1 l) (G5 O O) O (Dq (G0 id_) (G5 O O) O (Dq (G0 r15) (Gu (args:=[E1 l,G0 id_]) O (G0f l id_ r15 hr15) G72 ⟨O,O,O,O,G⟩) O (Dq (Ed y16) (H9 (f:=Stowed.av) (xs:=l) (y:=y16) O O O H0 hy16 hm17) O (Dq (.dptr ((Stowed.cs y16).drop 1)) (Gb J7 O O O) O (Dq (.dptr ((Stowed.cs y16).drop 1)) (Gb Jf O O O) O (Dq (G0 y16.Slot.G3) (Gi Gd O O O) O (Dq (G0 r18) (Gu (args:=[.agg (Gt.cs s),G0 y16.Slot.G3]) O (H37 s y16.Slot.G3 r18 hr18) J21 ⟨O,O,O,O,G⟩) O (Dq (G0 r18) (G8 O O) O (Dnil ?_))))))))))))
    refine hK14 (Jr fun hK19=>(Rc (G0 r18) O (JLh (BL (decide (0≤r18))) (G9d O O O) O (Rc (BL (decide (0≤r18))) O (JLo (E0 open_) [] O .sct G (fun hc=>G5 O O) O (JLo (G0 r18) [] O .sct G (fun hc=>G5 O O) O ?_))))))
    obtain⟨r20,hr20,h⟩:=Gf h
    refine JLo (BL r20) [47,48] O .sct ⟨Ua,Ua,G⟩ (fun hc=>Gu (args:=[E0 open_,G0 r18]) O (Zx open_ r18 r20 (H4 hc hr20)) H61 ⟨O,O,O,O,G⟩) O (JLo (BL (!r20)) [49] O .sct ⟨Ua,G⟩ (fun hc=>Ze (b:=r20) O O) O (JLh (BL ((decide (0≤r18))&&(!r20))) (Q6 O O O O) O (G7 (hK19 (JCc O h (fun h hb=>?_) (fun h hb=>?_))))))
    ·
     refine Jr fun hK21=>(Rc (G0 91) O (G7 (hK21 (Gv (fin1 G0 h)))))
    ·
     refine Gr (hK13 (Jr fun hK22=>(Rc (G0 0) O (G7 (hK22 (Gv (fin1 G0 h)))))))
end
end Go.Proofs.YtbljcmgjmieffaaGreat
