/-
 Models of functions of the program,and that they return what the models say.
-/
import Derived.Test.YtbljcmgjmieffaaGreatXB
set_option linter.unnecessarySimpa false
set_option maxRecDepth 100000
set_option linter.unusedVariables false
set_option linter.unusedSimpArgs false
namespace Go.Proofs.YtbljcmgjmieffaaGreat
open Go.RowKit
noncomputable section
structure Gg where
 G3:Int
 Kilos:Int
 Small:Bool
 High:Bool
 deriving DecidableEq,Inhabited
def Gg.cs (x:Gg):List AV:=[U8 x.G3,U8 x.Kilos,BL x.Small,BL x.High]
def Gg.av (x:Gg):AV:=.agg x.cs
abbrev Ef (x:Gg):AV:=.dptr (Gg.cs x)
abbrev Ea:=LS 4 Gg.av
structure Hd where
 s:Gt
 boxes:List Ga
 l:List Stowed
 open_:List Int
 x:Stowed
 deriving DecidableEq,Inhabited
def Hd.cs (x:Hd):List AV:=[E7 x.s.Columns,E6 x.s.Covers,G0 x.s.Light.Kilos,G0 x.s.Light.X,G0 x.s.Light.Y,G0 x.s.Light.Z,E3 x.s.Rows,E4 x.s.Frames,E5 x.s.Tanks,G0 x.s.G2.Tolerance,G0 x.s.G2.Trim,G0 x.s.G2.List_,G0 x.s.G2.Stability,E2 x.boxes,E1 x.l,E0 x.open_,G0 x.x.Ga,G0 x.x.Slot.G3,G0 x.x.Slot.Tier,U8 x.x.Slot.Half]
def Hd.av (x:Hd):AV:=.agg x.cs
abbrev Eg (x:Hd):AV:=.dptr (Hd.cs x)
namespace XPF
open XAF
open XCF
open XGF
open XBF
theorem J67:G96 Ek 58 4=true:=by kernel_rfl
theorem Gad:G96 Ek 98 20=true:=by kernel_rfl
theorem H40:arr1B Ek 99 4=true:=by kernel_rfl
theorem tf_arr_99:arrB Ek 99 42 1=true:=by kernel_rfl
theorem G4c:Hf Ek 10=true:=by kernel_rfl
theorem G71:Hf Ek 12=true:=by kernel_rfl
theorem H04:Hf Ek 13=true:=by kernel_rfl
theorem G4b:Hf Ek 15=true:=by kernel_rfl
theorem G70:Hf Ek 16=true:=by kernel_rfl
theorem G04:Hf Ek 21=true:=by kernel_rfl
theorem J1e:Hf Ek 23=true:=by kernel_rfl
theorem Jbd:Hf Ek 24=true:=by kernel_rfl
theorem J1b:Hf Ek 32=true:=by kernel_rfl
theorem J1a:Hf Ek 33=true:=by kernel_rfl
theorem Jba:Hf Ek 34=true:=by kernel_rfl
theorem Jb8:Hf Ek 39=true:=by kernel_rfl
theorem Jb7:Hf Ek 40=true:=by kernel_rfl
theorem Jb6:Hf Ek 41=true:=by kernel_rfl
theorem Jb5:Hf Ek 42=true:=by kernel_rfl
theorem J18:Hf Ek 43=true:=by kernel_rfl
theorem Jb1:Hf Ek 51=true:=by kernel_rfl
theorem Jae:Hf Ek 59=true:=by kernel_rfl
theorem J10:Hf Ek 60=true:=by kernel_rfl
theorem Ja9:Hf Ek 69=true:=by kernel_rfl
theorem Ha7:Hf Ek 7=true:=by kernel_rfl
theorem Ja8:Hf Ek 70=true:=by kernel_rfl
theorem Ja7:Hf Ek 71=true:=by kernel_rfl
theorem Ja3:Hf Ek 79=true:=by kernel_rfl
theorem Ha6:Hf Ek 8=true:=by kernel_rfl
theorem G6d:Hf Ek 9=true:=by kernel_rfl
theorem J0b:Hf Ek 94=true:=by kernel_rfl
theorem H03:Ru Ek 67 9 64=true:=by kernel_rfl
theorem Gdd:Jm Ek 58 0 0=true:=by kernel_rfl
theorem G3b:Jm Ek 58 1 1=true:=by kernel_rfl
theorem Gdc:Jm Ek 58 2 2=true:=by kernel_rfl
theorem Gdb:Jm Ek 58 3 3=true:=by kernel_rfl
theorem Gda:Jm Ek 98 0 0=true:=by kernel_rfl
theorem J63:Jm Ek 98 1 13=true:=by kernel_rfl
theorem G3a:Jm Ek 98 2 14=true:=by kernel_rfl
theorem J62:Jm Ek 98 3 15=true:=by kernel_rfl
theorem G0c:Jm Ek 98 4 16=true:=by kernel_rfl
theorem J01:H8e Ek 117 .u64=true:=by kernel_rfl
theorem J72:placesOf Ek 36=some [(0,1),(1,1),(2,4),(6,1),(7,1),(8,1),(9,4)]:=by kernel_rfl
theorem Z5:placesOf Ek 47=some [(0,1),(1,3)]:=by kernel_rfl
theorem J70:placesOf Ek 98=some [(0,13),(13,1),(14,1),(15,1),(16,4)]:=by kernel_rfl
theorem J6f:Ra Ek 38=true:=by kernel_rfl
theorem Ha3:R6 Ek 4 1=true:=by kernel_rfl
theorem H3f:R6 Ek 5 1=true:=by kernel_rfl
theorem Hfe:R6 Ek 58 4=true:=by kernel_rfl
theorem J9c:R6 Ek 76 1=true:=by kernel_rfl
theorem J98:R6 Ek 98 20=true:=by kernel_rfl
theorem Zz:sliceB Ek 24 58 4=true:=by kernel_rfl
theorem G02:(Ek.info? 47).bind (fun i=>i.zero.map Value.cells)=some (List.toArray [.int .i64 0,.int .i64 0,.int .i64 0,.int .u8 0]):=by kernel_rfl
theorem J97:(Ek.info? 76).bind (fun i=>i.zero.map Value.cells)=some (List.toArray [.slice none 0 0]):=by kernel_rfl
theorem J95:(Ek.info? 98).bind (fun i=>i.zero.map Value.cells)=some (List.toArray [.slice none 0 0,.slice none 0 0,.int .i64 0,.int .i64 0,.int .i64 0,.int .i64 0,.slice none 0 0,.slice none 0 0,.slice none 0 0,.int .i64 0,.int .i64 0,.int .i64 0,.int .i64 0,.slice none 0 0,.slice none 0 0,.slice none 0 0,.int .i64 0,.int .i64 0,.int .i64 0,.int .u8 0]):=by kernel_rfl
theorem J94:(Ek.info? 99).bind (fun i=>i.zero.map Value.cells)=some (List.toArray [.nilFunc,.nilFunc,.nilFunc,.nilFunc]):=by kernel_rfl
theorem Hc3:Qv Ek 58 4=true:=by kernel_rfl
theorem J77:Qv Ek 98 20=true:=by kernel_rfl
end XPF
open XAF
open XCF
open XGF
open XBF
open XPF

def Ga6 (s:Gt) (size:Int):Option Unit:=
 some ()
theorem J51 (s:Gt) (size:Int) (r:Unit) (h:Ga6 s size=some r):Pure Ek 51 [.agg (Gt.cs s),U8 size] (·=.fn 79 [.dptr (Gt.cs s),.dptr [U8 size]]):=by
 unfold Ga6 at h
 refine H4 [.tmp 4] Tryz.func51 O O (Jr fun hK1=>(JLh (.ptr 1099 0) (Jz (cs:=(Gt.cs s)) 1099 O O O O O) O (JLh (.ptr 1100 0) (Jz (cs:=[U8 size]) 1100 O O O O O) O (Rc (.sc .nilFunc) O (G7 (hK1 ?_))))))
 refine Gs [(2,Ec s),(3,.ptr 1100 0)] [(1100,.box 5 [U8 size])] 1099 rfl rfl rfl ⟨⟨_,rfl,.boxEq rfl rfl⟩,G⟩ rfl (by exact⟨.ptr,.conv (.same rfl),G⟩) (Gs [(2,Ec s),(3,.dptr [U8 size])] [] 1100 rfl rfl rfl G rfl (by exact⟨.conv (.same rfl),.ptr,G⟩) ?_)
 refine Jr fun hK2=>(JLh (.fn 79 [.dptr (Gt.cs s),.dptr [U8 size]]) (Z4 (cs:=[.dptr (Gt.cs s),.dptr [U8 size]]) O O) O (Rc (.fn 79 [.dptr (Gt.cs s),.dptr [U8 size]]) O (G7 (hK2 ?_))))
 refine Gv (⟨[.fn 79 [.dptr (Gt.cs s),.dptr [U8 size]]],[],G,O,⟨⟨_,O,.conv (.same O)⟩,G⟩,O,congrArg (fun _:Unit=>(.fn 79 [.dptr (Gt.cs s),.dptr [U8 size]]:AV)) (Option.some.inj h)⟩)

def Gc3 (s:Gt) (size:Int):Option (List Slot):=
 bnd (Ga6 s size) fun r5=>
 bnd (G63 s size) fun ys8=>
 each (fun y8 i8 (s8:(List Slot)) nx8=>
  need (decide ((s8.length+[y8].length)*24≤140737488355328∧s8.length+[y8].length≤maxLen)) <|
  nx8 (s8++[y8]))
 (fun(s8:(List Slot))=>
  some s8) ys8 0 []
theorem H97 (s:Gt) (size:Int) (r:(List Slot)) (h:Gc3 s size=some r):Pure Ek 23 [.agg (Gt.cs s),U8 size] (·=E8 r):=by
 unfold Gc3 at h
 refine H4 [.tmp 4] Tryz.func23 O O (Jr fun hK1=>(JLh (.ptr 1059 0) (Jz (cs:=(Gt.cs s)) 1059 O O O O O) O (JLh (E8 ([]:List Slot)) (Hi 3 O O) O (G7 (hK1 (Gs [(1,U8 size),(2,Ec s)] [] 1059 rfl rfl rfl G rfl (by exact⟨.conv (.same rfl),.ptr,G⟩) ?_))))))
 refine Jr fun hK2=>(JLh (.ptr 1060 0) (Gc6 1060 [.sc (.slice none 0 0)] [.slice none 0 0] J97 ⟨.inl O,G⟩ O O) O (J57 1060 0 1062 45 3 O O O (cs':=[OW 1062 3 Slot.av ([]:List Slot)]) O (G7 (hK2 (Js fun hK3=>Jr fun hK4=>(JLh (.agg (Gt.cs s)) (Gh H6 O O O) O (Rc (U8 size) O ?_)))))))
 obtain⟨r5,hr5,h⟩:=Gf h
 refine JLh (.fn 79 [.dptr (Gt.cs s),.dptr [U8 size]]) (Gu O (J51 s size r5 hr5) Jb1 ⟨O,O,O,O,G⟩) O (G7 (hK4 (Gx ?_)))
 obtain⟨ys8,hy_8,h⟩:=Gf h
 obtain⟨b8,kx8,hb8,hkx8,h⟩:=Jf h
 refine J74 (ps:=[10]) [(5,.ptr 1060 0),(9,.fn 79 [.dptr (Gt.cs s),.dptr [U8 size]])] (ys8.map (fun y:Slot=>[.agg [G0 y.G3,G0 y.Tier,U8 y.Half]])) (fun i8 (s8:(List Slot))=>each b8 kx8 (List.drop i8 ys8) i8 s8=some r) (fun s8=>[(1062,.spare 45 3 s8.length s8.length),(1060,.box 76 [OW 1062 3 Slot.av s8])]) [] rfl rfl rfl Ja3 (Hb9.down s size ys8 hy_8) h ⟨⟨.same rfl,.same rfl,trivial⟩,⟨⟨_,rfl,.same⟩,⟨_,rfl,.boxL rfl ⟨.same rfl,trivial⟩⟩,trivial⟩,rfl⟩ rfl (fun us_ hus_=>by obtain⟨_,_,rfl⟩:=List.mem_map.1 hus_; rfl) (fun p_ hp_=>Nat.blt_eq.mp (by revert p_; decide)) (fun _=>⟨.same rfl,.same rfl,trivial⟩) (fun _=>rfl) ?_ ?_
 ·
  intro i8 us_ s8 hu_ hi8 lr_ K8 e8
  obtain⟨hk8,rfl⟩:=mapf_at hu_
  obtain⟨y8,nx8,hy8,hn8,h⟩:=J0 hi8 hk8
  replace h:=Zi hb8 h
  obtain⟨_,rfl⟩:=List.getElem?_eq_some_iff.1 hy8
  generalize ys8[i8]=y8 at h ⊢
  change JC _ _ _ _ [(10,.agg [G0 y8.G3,G0 y8.Tier,U8 y8.Half]),(5,.ptr 1060 0),(9,.fn 79 [.dptr (Gt.cs s),.dptr [U8 size]])] [(1062,.spare 45 3 s8.length s8.length),(1060,.box 76 [OW 1062 3 Slot.av s8])]
  refine G4 (JLh (.ptr 1061 0) (Hs 1061 3 G4f O O) O (Hz (u:=.junk) (Hh (u:=.agg [G0 y8.G3,G0 y8.Tier,U8 y8.Half]) (ds:=[G0 y8.G3,G0 y8.Tier,U8 y8.Half]) Gfe O O O O O O O O) (G7 (Mid_freeze [(5,.ptr 1060 0),(6,.dptr [G0 y8.G3,G0 y8.Tier,U8 y8.Half])] [(1062,.spare 45 3 s8.length s8.length),(1060,.box 76 [OW 1062 3 Slot.av s8])] 1061 rfl rfl rfl ⟨⟨_,rfl,.same⟩,⟨_,rfl,.boxEq rfl rfl⟩,G⟩ rfl (by exact⟨.conv (.same rfl),.ptr,G⟩) (Mid_go (Gx (G4 (JLh (OW 1062 3 Slot.av s8) (Y1 H01 O O O O) O (JLh (.agg [G0 y8.G3,G0 y8.Tier,U8 y8.Half]) (Gh Q4 O O O) O (JLh (E8 [y8]) (H5 (xs:=[.agg [G0 y8.G3,G0 y8.Tier,U8 y8.Half]]) O ⟨O,O,G⟩ R5 G4f O O O O) O ?_))))))))))
  obtain⟨ha9,h⟩:=Ji h
  refine JLh (OW 1062 3 Slot.av (s8++[y8])) (Rn (f:=Slot.av) (xs:=s8) (ys:=[y8]) O O O O R5 J09 ha9 (fun _=>O) (.inl O) O) O (Hz (u:=.junk) (Hh (u:=OW 1062 3 Slot.av (s8++[y8])) (ds:=[OW 1062 3 Slot.av (s8++[y8])]) J9c O O O O O O O O) (G7 (e8 _ _ (s8++[y8]) (app1 hn8 h) ⟨G,⟨⟨_,O,.same⟩,⟨_,O,.boxL O ⟨.same O,G⟩⟩,G⟩,O⟩)))
 ·
  intro s8 h
  rw [List.length_map] at h
  replace h:=app1 hkx8 (J1 h (Nat.lt_irrefl _))
  refine hK3 (Jr fun hK10=>(JLh (OW 1062 3 Slot.av s8) (Y1 H01 O O O O) O (Rc (OW 1062 3 Slot.av s8) O (G7 (hK10 (Rm (l':=[(4,E8 s8)]) (L':=[(1060,.box 76 [E8 s8])]) ⟨⟨.list O,G⟩,⟨⟨_,O,.boxL O ⟨.list O,G⟩⟩,G⟩,O⟩ (Gs [(4,E8 s8)] [] 1060 rfl rfl rfl G rfl (by exact⟨.conv (.same rfl),G⟩) (Gv (fin1 (fun r:(List Slot)=>(E8 r:AV)) h)))))))))

def Jj (s:Gt) (l:List Gg) (most:Int):Option ((List Ga)×(List Stowed)):=
 bnd (Gea (min (l.length:Int) most) l.length) fun m6=>
 each (fun y7 i7 (s7:(List Ga)×(List Stowed)) nx7=>
  jp (fun kj10=>
   G07 (5*((i7+1:Nat):Int)) fun v13=>
   G07 (y7.Kilos) fun v14=>
   G07 (100*v14) fun v15=>
   G07 (1000+v15) fun v16=>
   jp (fun kj17=>
    bif y7.Small then
    (kj17 (20,false))
    else
    (kj17 (40,y7.High))) fun(j17:Int×Bool)=>
   need (decide ((s7.1.length+[(Ga.mk v13 ByteArray.empty j17.1 j17.2 v16 0 1 0 false)].length)*64≤140737488355328∧s7.1.length+[(Ga.mk v13 ByteArray.empty j17.1 j17.2 v16 0 1 0 false)].length≤maxLen)) <|
   bnd (Gc3 s j17.1) fun r22=>
   each (fun y49 i49 (s49:(List Stowed)) nx49=>
    need (decide ((([]:List Stowed).length+s49.length)*32≤140737488355328∧([]:List Stowed).length+s49.length≤maxLen)) <|
    need (decide (((([]:List Stowed)++s49).length+[(Stowed.mk v13 y49)].length)*32≤140737488355328∧(([]:List Stowed)++s49).length+[(Stowed.mk v13 y49)].length≤maxLen)) <|
    G07 (y7.G3) fun v58=>
    bnd (Gcf v58 (s.Columns.length:Int)) fun v59=>
    bnd (bif decide (y49.G3=v59) then Qr s (s7.1++[(Ga.mk v13 ByteArray.empty j17.1 j17.2 v16 0 1 0 false)]) ((([]:List Stowed)++s49)++[(Stowed.mk v13 y49)]) else some default) fun r60=>
    bif ((decide (y49.G3=v59))&&r60) then
    (kj10 ((s7.1++[(Ga.mk v13 ByteArray.empty j17.1 j17.2 v16 0 1 0 false)]),((([]:List Stowed)++s49)++[(Stowed.mk v13 y49)])))
    else
    (nx49 s49))
   (fun(s49:(List Stowed))=>
    kj10 ((s7.1++[(Ga.mk v13 ByteArray.empty j17.1 j17.2 v16 0 1 0 false)]),s49)) r22 0 s7.2) fun(j10:(List Ga)×(List Stowed))=>
  nx7 (j10.1,j10.2))
 (fun(s7:(List Ga)×(List Stowed))=>
  some (s7.1,s7.2)) (l.take m6) 0 ([],[])
def Zj :Option Gt:=
 some (Gt.mk ([(G3.mk 0 0 false 2 0 0 0 0 [] 0 0 0),(G3.mk 0 1 false 2 0 0 0 0 [] 0 0 0),(G3.mk 0 0 true 3 0 0 0 0 [] 0 0 0),(G3.mk 0 1 true 3 0 0 0 0 [] 0 0 0),(G3.mk 1 1 true 4 0 0 0 0 [] 0 0 0)]) ([(G9.mk 0 [0,1])]) (Light.mk 0 0 0 0) [] [] [] (G2.mk 0 0 0 0))
theorem Gc1  (r:Gt) (h:Zj =some r):Pure Ek 24 [] (·=.agg (Gt.cs r)):=by
 unfold Zj at h
 refine H4 [.cell 0 36] Tryz.func24 O O (Jr fun hK1=>(JLh (.ptr 1063 0) (Gc6 1063 [E7 ([]:List G3),E6 ([]:List G9),G0 0,G0 0,G0 0,G0 0,E3 ([]:List Row),E4 ([]:List Frame),E5 ([]:List Gm),G0 0,G0 0,G0 0,G0 0] [.slice none 0 0,.slice none 0 0,.int .i64 0,.int .i64 0,.int .i64 0,.int .i64 0,.slice none 0 0,.slice none 0 0,.slice none 0 0,.int .i64 0,.int .i64 0,.int .i64 0,.int .i64 0] Gaf ⟨.inr ⟨_,O,O⟩,.inr ⟨_,O,O⟩,.inl O,.inl O,.inl O,.inl O,.inr ⟨_,O,O⟩,.inr ⟨_,O,O⟩,.inr ⟨_,O,O⟩,.inl O,.inl O,.inl O,.inl O,G⟩ O O) O (G7 (hK1 ?_))))
 refine Jr fun hK2=>(JLh (.agg [G0 0,G0 0,BL false,G0 2,G0 0,G0 0,G0 0,G0 0,E0 ([]:List Int),G0 0,G0 0,G0 0]) (Hp (cs:=[G0 0,G0 0,BL false,G0 2,G0 0,G0 0,G0 0,G0 0,E0 ([]:List Int),G0 0,G0 0,G0 0]) [(0,1),(1,1),(2,1),(3,1),(4,1),(5,1),(6,1),(7,1),(8,1),(9,1),(10,1),(11,1)] [G0 0,G0 0,BL false,G0 0,G0 0,G0 0,G0 0,G0 0,E0 ([]:List Int),G0 0,G0 0,G0 0] [.int .i64 0,.int .i64 0,.bool false,.int .i64 0,.int .i64 0,.int .i64 0,.int .i64 0,.int .i64 0,.slice none 0 0,.int .i64 0,.int .i64 0,.int .i64 0] G03 G48 ⟨.inl O,.inl O,.inl O,.inl O,.inl O,.inl O,.inl O,.inl O,.inr ⟨_,O,O⟩,.inl O,.inl O,.inl O,G⟩ O O) O (JLh (.agg [G0 0,G0 1,BL false,G0 2,G0 0,G0 0,G0 0,G0 0,E0 ([]:List Int),G0 0,G0 0,G0 0]) (Hp (cs:=[G0 0,G0 1,BL false,G0 2,G0 0,G0 0,G0 0,G0 0,E0 ([]:List Int),G0 0,G0 0,G0 0]) [(0,1),(1,1),(2,1),(3,1),(4,1),(5,1),(6,1),(7,1),(8,1),(9,1),(10,1),(11,1)] [G0 0,G0 0,BL false,G0 0,G0 0,G0 0,G0 0,G0 0,E0 ([]:List Int),G0 0,G0 0,G0 0] [.int .i64 0,.int .i64 0,.bool false,.int .i64 0,.int .i64 0,.int .i64 0,.int .i64 0,.int .i64 0,.slice none 0 0,.int .i64 0,.int .i64 0,.int .i64 0] G03 G48 ⟨.inl O,.inl O,.inl O,.inl O,.inl O,.inl O,.inl O,.inl O,.inr ⟨_,O,O⟩,.inl O,.inl O,.inl O,G⟩ O O) O (JLh (.agg [G0 0,G0 0,BL true,G0 3,G0 0,G0 0,G0 0,G0 0,E0 ([]:List Int),G0 0,G0 0,G0 0]) (Hp (cs:=[G0 0,G0 0,BL true,G0 3,G0 0,G0 0,G0 0,G0 0,E0 ([]:List Int),G0 0,G0 0,G0 0]) [(0,1),(1,1),(2,1),(3,1),(4,1),(5,1),(6,1),(7,1),(8,1),(9,1),(10,1),(11,1)] [G0 0,G0 0,BL false,G0 0,G0 0,G0 0,G0 0,G0 0,E0 ([]:List Int),G0 0,G0 0,G0 0] [.int .i64 0,.int .i64 0,.bool false,.int .i64 0,.int .i64 0,.int .i64 0,.int .i64 0,.int .i64 0,.slice none 0 0,.int .i64 0,.int .i64 0,.int .i64 0] G03 G48 ⟨.inl O,.inl O,.inl O,.inl O,.inl O,.inl O,.inl O,.inl O,.inr ⟨_,O,O⟩,.inl O,.inl O,.inl O,G⟩ O O) O (JLh (.agg [G0 0,G0 1,BL true,G0 3,G0 0,G0 0,G0 0,G0 0,E0 ([]:List Int),G0 0,G0 0,G0 0]) (Hp (cs:=[G0 0,G0 1,BL true,G0 3,G0 0,G0 0,G0 0,G0 0,E0 ([]:List Int),G0 0,G0 0,G0 0]) [(0,1),(1,1),(2,1),(3,1),(4,1),(5,1),(6,1),(7,1),(8,1),(9,1),(10,1),(11,1)] [G0 0,G0 0,BL false,G0 0,G0 0,G0 0,G0 0,G0 0,E0 ([]:List Int),G0 0,G0 0,G0 0] [.int .i64 0,.int .i64 0,.bool false,.int .i64 0,.int .i64 0,.int .i64 0,.int .i64 0,.int .i64 0,.slice none 0 0,.int .i64 0,.int .i64 0,.int .i64 0] G03 G48 ⟨.inl O,.inl O,.inl O,.inl O,.inl O,.inl O,.inl O,.inl O,.inr ⟨_,O,O⟩,.inl O,.inl O,.inl O,G⟩ O O) O (JLh (.agg [G0 1,G0 1,BL true,G0 4,G0 0,G0 0,G0 0,G0 0,E0 ([]:List Int),G0 0,G0 0,G0 0]) (Hp (cs:=[G0 1,G0 1,BL true,G0 4,G0 0,G0 0,G0 0,G0 0,E0 ([]:List Int),G0 0,G0 0,G0 0]) [(0,1),(1,1),(2,1),(3,1),(4,1),(5,1),(6,1),(7,1),(8,1),(9,1),(10,1),(11,1)] [G0 0,G0 0,BL false,G0 0,G0 0,G0 0,G0 0,G0 0,E0 ([]:List Int),G0 0,G0 0,G0 0] [.int .i64 0,.int .i64 0,.bool false,.int .i64 0,.int .i64 0,.int .i64 0,.int .i64 0,.int .i64 0,.slice none 0 0,.int .i64 0,.int .i64 0,.int .i64 0] G03 G48 ⟨.inl O,.inl O,.inl O,.inl O,.inl O,.inl O,.inl O,.inl O,.inr ⟨_,O,O⟩,.inl O,.inl O,.inl O,G⟩ O O) O (JLh (E7 ([(G3.mk 0 0 false 2 0 0 0 0 [] 0 0 0),(G3.mk 0 1 false 2 0 0 0 0 [] 0 0 0),(G3.mk 0 0 true 3 0 0 0 0 [] 0 0 0),(G3.mk 0 1 true 3 0 0 0 0 [] 0 0 0),(G3.mk 1 1 true 4 0 0 0 0 [] 0 0 0)])) (H5 (xs:=[.agg [G0 0,G0 0,BL false,G0 2,G0 0,G0 0,G0 0,G0 0,E0 ([]:List Int),G0 0,G0 0,G0 0],.agg [G0 0,G0 1,BL false,G0 2,G0 0,G0 0,G0 0,G0 0,E0 ([]:List Int),G0 0,G0 0,G0 0],.agg [G0 0,G0 0,BL true,G0 3,G0 0,G0 0,G0 0,G0 0,E0 ([]:List Int),G0 0,G0 0,G0 0],.agg [G0 0,G0 1,BL true,G0 3,G0 0,G0 0,G0 0,G0 0,E0 ([]:List Int),G0 0,G0 0,G0 0],.agg [G0 1,G0 1,BL true,G0 4,G0 0,G0 0,G0 0,G0 0,E0 ([]:List Int),G0 0,G0 0,G0 0]]) O ⟨O,O,O,O,O,O,O,O,O,O,G⟩ Hq Yo O O O O) O (JLh (E0 [0,1]) (H5 (xs:=[G0 0,G0 1]) O ⟨O,O,O,O,G⟩ Gq Jq O O O O) O (JLh (.agg [G0 0,E0 [0,1]]) (Hp (cs:=[G0 0,E0 [0,1]]) [(0,1),(1,1)] [G0 0,E0 ([]:List Int)] [.int .i64 0,.slice none 0 0] H02 H5f ⟨.inl O,.inr ⟨_,O,O⟩,G⟩ O O) O (JLh (E6 ([(G9.mk 0 [0,1])])) (H5 (xs:=[.agg [G0 0,E0 [0,1]]]) O ⟨O,O,G⟩ J7 G85 O O O O) O (JLh (.agg [E7 ([(G3.mk 0 0 false 2 0 0 0 0 [] 0 0 0),(G3.mk 0 1 false 2 0 0 0 0 [] 0 0 0),(G3.mk 0 0 true 3 0 0 0 0 [] 0 0 0),(G3.mk 0 1 true 3 0 0 0 0 [] 0 0 0),(G3.mk 1 1 true 4 0 0 0 0 [] 0 0 0)]),E6 ([(G9.mk 0 [0,1])]),G0 0,G0 0,G0 0,G0 0,E3 ([]:List Row),E4 ([]:List Frame),E5 ([]:List Gm),G0 0,G0 0,G0 0,G0 0]) (Hp (cs:=[E7 ([(G3.mk 0 0 false 2 0 0 0 0 [] 0 0 0),(G3.mk 0 1 false 2 0 0 0 0 [] 0 0 0),(G3.mk 0 0 true 3 0 0 0 0 [] 0 0 0),(G3.mk 0 1 true 3 0 0 0 0 [] 0 0 0),(G3.mk 1 1 true 4 0 0 0 0 [] 0 0 0)]),E6 ([(G9.mk 0 [0,1])]),G0 0,G0 0,G0 0,G0 0,E3 ([]:List Row),E4 ([]:List Frame),E5 ([]:List Gm),G0 0,G0 0,G0 0,G0 0]) [(0,1),(1,1),(2,4),(6,1),(7,1),(8,1),(9,4)] [E7 ([]:List G3),E6 ([]:List G9),G0 0,G0 0,G0 0,G0 0,E3 ([]:List Row),E4 ([]:List Frame),E5 ([]:List Gm),G0 0,G0 0,G0 0,G0 0] [.slice none 0 0,.slice none 0 0,.int .i64 0,.int .i64 0,.int .i64 0,.int .i64 0,.slice none 0 0,.slice none 0 0,.slice none 0 0,.int .i64 0,.int .i64 0,.int .i64 0,.int .i64 0] J72 Gaf ⟨.inr ⟨_,O,O⟩,.inr ⟨_,O,O⟩,.inl O,.inl O,.inl O,.inl O,.inr ⟨_,O,O⟩,.inr ⟨_,O,O⟩,.inr ⟨_,O,O⟩,.inl O,.inl O,.inl O,.inl O,G⟩ O O) O (Hz (u:=.junk) (Hh (u:=.agg [E7 ([(G3.mk 0 0 false 2 0 0 0 0 [] 0 0 0),(G3.mk 0 1 false 2 0 0 0 0 [] 0 0 0),(G3.mk 0 0 true 3 0 0 0 0 [] 0 0 0),(G3.mk 0 1 true 3 0 0 0 0 [] 0 0 0),(G3.mk 1 1 true 4 0 0 0 0 [] 0 0 0)]),E6 ([(G9.mk 0 [0,1])]),G0 0,G0 0,G0 0,G0 0,E3 ([]:List Row),E4 ([]:List Frame),E5 ([]:List Gm),G0 0,G0 0,G0 0,G0 0]) (ds:=[E7 ([(G3.mk 0 0 false 2 0 0 0 0 [] 0 0 0),(G3.mk 0 1 false 2 0 0 0 0 [] 0 0 0),(G3.mk 0 0 true 3 0 0 0 0 [] 0 0 0),(G3.mk 0 1 true 3 0 0 0 0 [] 0 0 0),(G3.mk 1 1 true 4 0 0 0 0 [] 0 0 0)]),E6 ([(G9.mk 0 [0,1])]),G0 0,G0 0,G0 0,G0 0,E3 ([]:List Row),E4 ([]:List Frame),E5 ([]:List Gm),G0 0,G0 0,G0 0,G0 0]) G19 O O O O O O O O) (G7 (hK2 ?_)))))))))))))
 refine Gv (⟨[.agg [E7 ([(G3.mk 0 0 false 2 0 0 0 0 [] 0 0 0),(G3.mk 0 1 false 2 0 0 0 0 [] 0 0 0),(G3.mk 0 0 true 3 0 0 0 0 [] 0 0 0),(G3.mk 0 1 true 3 0 0 0 0 [] 0 0 0),(G3.mk 1 1 true 4 0 0 0 0 [] 0 0 0)]),E6 ([(G9.mk 0 [0,1])]),G0 0,G0 0,G0 0,G0 0,E3 ([]:List Row),E4 ([]:List Frame),E5 ([]:List Gm),G0 0,G0 0,G0 0,G0 0]],[],G,O,⟨⟨_,⟨_,_,_,_,O,O,O,.inl ⟨H6,O⟩⟩,.conv (.same O)⟩,G⟩,O,congrArg (fun r:Gt=>(.agg (Gt.cs r):AV)) (Option.some.inj h)⟩)

def Jk (box:Int) (column:Int) (tier:Int) (half:Int):Option Stowed:=
 some (Stowed.mk box (Slot.mk column tier half))
theorem Jt (box:Int) (column:Int) (tier:Int) (half:Int) (r:Stowed) (h:Jk box column tier half=some r):Pure Ek 21 [G0 box,G0 column,G0 tier,U8 half] (·=.agg (Stowed.cs r)):=by
 unfold Jk at h
 refine H4 [.cell 8 47] Tryz.func21 O O (Jr fun hK1=>(JLh (.ptr 1052 0) (Gc6 1052 [G0 0,G0 0,G0 0,U8 0] [.int .i64 0,.int .i64 0,.int .i64 0,.int .u8 0] G02 ⟨.inl O,.inl O,.inl O,.inl O,G⟩ O O) O (G7 (hK1 ?_))))
 refine Jr fun hK2=>(Rc (G0 box) O (Rc (G0 column) O (Rc (G0 tier) O (Rc (U8 half) O (JLh (.agg [G0 column,G0 tier,U8 half]) (Hp (cs:=[G0 column,G0 tier,U8 half]) [(0,1),(1,1),(2,1)] [G0 0,G0 0,U8 0] [.int .i64 0,.int .i64 0,.int .u8 0] G9d Gfd ⟨.inl O,.inl O,.inl O,G⟩ O O) O (JLh (.agg [G0 box,G0 column,G0 tier,U8 half]) (Hp (cs:=[G0 box,G0 column,G0 tier,U8 half]) [(0,1),(1,3)] [G0 0,G0 0,G0 0,U8 0] [.int .i64 0,.int .i64 0,.int .i64 0,.int .u8 0] Z5 G02 ⟨.inl O,.inl O,.inl O,.inl O,G⟩ O O) O (Hz (u:=.junk) (Hh (u:=.agg [G0 box,G0 column,G0 tier,U8 half]) (ds:=[G0 box,G0 column,G0 tier,U8 half]) Ye O O O O O O O O) (G7 (hK2 (Gv ?_))))))))))
 exact⟨[.agg [G0 box,G0 column,G0 tier,U8 half]],[],G,O,⟨⟨_,⟨_,_,_,_,O,O,O,.inl ⟨Qw,O⟩⟩,.conv (.same O)⟩,G⟩,O,congrArg (fun r:Stowed=>(.agg (Stowed.cs r):AV)) (Option.some.inj h)⟩

def G0b (x:Int):Option Bool:=
 some (decide (x≠x))
theorem Gd3 (x:Int) (r:Bool) (h:G0b x=some r):Pure Ek 94 [G0 x] (·=BL r):=by
 unfold G0b at h
 refine H4 [.tmp 2] Tryz.func94 O O (Jr fun hK1=>(Rc (BL false) O (G7 (hK1 (Jr fun hK2=>(Rc (G0 x) O (Rc (G0 x) O (JLh (BL (decide (x≠x))) (G36 O O O) O (Rc (BL (decide (x≠x))) O (G7 (hK2 (Gv (fin1 BL h)))))))))))))

def G22 (x:Int) (y:Int):Option Bool:=
 bnd (G0b x) fun r3=>
 bnd (bif r3 then G0b y else some default) fun r4=>
 some ((r3&&(!r4))||(decide (x < y)))
theorem Hbe (x:Int) (y:Int) (r:Bool) (h:G22 x y=some r):Pure Ek 59 [G0 x,G0 y] (·=BL r):=by
 unfold G22 at h
 refine H4 [.tmp 4] Tryz.func59 O O (Jr fun hK1=>(Rc (BL false) O (G7 (hK1 (Jr fun hK2=>(Rc (G0 x) O ?_))))))
 obtain⟨r3,hr3,h⟩:=Gf h
 refine JLh (BL r3) (Gu O (Gd3 x r3 hr3) J0b ⟨O,O,G⟩) O (Rc (BL r3) O (JLo (G0 y) [] O .sct G (fun hc=>G5 O O) O ?_))
 obtain⟨r4,hr4,h⟩:=Gf h
 refine JLo (BL r4) [8] O .sct ⟨Ua,G⟩ (fun hc=>Gu (args:=[G0 y]) O (Gd3 y r4 (H3 hc hr4)) J0b ⟨O,O,G⟩) O (JLo (BL (!r4)) [9] O .sct ⟨Ua,G⟩ (fun hc=>Zd (b:=r4) O O) O (JLh (BL (r3&&(!r4))) (Q6 O O O O) O (Rc (BL (r3&&(!r4))) O (JLo (G0 x) [] O .scf G (fun hc=>G5 O O) O (JLo (G0 y) [] O .scf G (fun hc=>G5 O O) O (JLo (BL (decide (x < y))) [13,14] O .scf ⟨Ua,Ua,G⟩ (fun hc=>Jp O O O) O (JLh (BL ((r3&&(!r4))||(decide (x < y)))) (G25 O O O O) O (Rc (BL ((r3&&(!r4))||(decide (x < y)))) O (G7 (hK2 (Gv (fin1 BL h))))))))))))

def Z2 (x:Int):Option Bool:=
 some (decide (x≠x))
theorem G8d (x:Int) (r:Bool) (h:Z2 x=some r):Pure Ek 60 [G0 x] (·=BL r):=by
 unfold Z2 at h
 refine H4 [.tmp 2] Tryz.func60 O O (Jr fun hK1=>(Rc (BL false) O (G7 (hK1 (Jr fun hK2=>(Rc (G0 x) O (Rc (G0 x) O (JLh (BL (decide (x≠x))) (G36 O O O) O (Rc (BL (decide (x≠x))) O (G7 (hK2 (Gv (fin1 BL h)))))))))))))

def Qe (F:Nat) (x:List Int) (target:Int):Option (Int×Bool):=
 loop (fun nx16 (s16:Int×Int)=>
  bif decide (s16.1 < s16.2) then
  (G07 (s16.1+s16.2) fun v20=>
   G07 (G69 .u64 (IntKind.u64.wrap v20) 1) fun v21=>
   Ym x v21 fun y23=>
   bnd (G22 y23 target) fun r25=>
   bif r25 then
   (G07 (v21+1) fun v26=>
    nx16 (v26,s16.2))
   else
   (nx16 (s16.1,v21)))
  else
  (bnd (bif decide (s16.1 < (x.length:Int)) then Ym x s16.1 some else some default) fun y28=>
   bnd (bif ((decide (s16.1 < (x.length:Int)))&&!(decide (y28=target))) then Ym x s16.1 some else some default) fun y29=>
   bnd (bif ((decide (s16.1 < (x.length:Int)))&&!(decide (y28=target))) then Z2 y29 else some default) fun r30=>
   bnd (bif (((decide (s16.1 < (x.length:Int)))&&!(decide (y28=target)))&&r30) then Z2 target else some default) fun r31=>
   some (s16.1,((decide (s16.1 < (x.length:Int)))&&((decide (y28=target))||(r30&&r31)))))) F (0,(x.length:Int))
theorem G14 (F:Nat) (x:List Int) (target:Int) (r:Int×Bool) (h:Qe F x target=some r):Pure Ek 32 [E0 x,G0 target] (·=.tup [G0 r.1,BL r.2]):=by
 unfold Qe at h
 refine H4 [.tmp 4,.tmp 5] Tryz.func32 O O (Jr fun hK1=>(Rc (G0 0) O (Rc (BL false) O (G7 (hK1 (Jr fun hK2=>(Rc (E0 x) O (JLl Gq O O O fun hm11=>(Rc (Ej x.length) O (G7 (hK2 (Jr fun hK3=>(Rc (Ej x.length) O (Rc (G0 0) O (Rc (Ej x.length) O (G7 (hK3 (Js fun hK4=>Gx ?_))))))))))))))))))
 obtain⟨b16,hb16,h⟩:=loop_in h
 refine Hy (fun i16 (s16:Int×Int)=>loop b16 i16 s16=some r) (fun i16 s16=>[(0,E0 x),(1,G0 target),(6,Ej x.length),(7,G0 s16.1),(8,G0 s16.2)]) (fun i16 s16=>[]) (fun i16=>i16) F (0,(x.length:Int)) h ⟨(by repeat' constructor),G,rfl⟩ ?_
 clear h
 intro i16 s16 hi16 K16 e16
 obtain⟨m16,nx16,hm_16,hn16,h⟩:=loop_out hi16
 replace h:=app2 hb16 h
 refine Js fun hK17=>Jr fun hK18=>(Rc (G0 s16.1) O (Rc (G0 s16.2) O (JLh (BL (decide (s16.1 < s16.2))) (Jp O O O) O (G7 (hK18 (JCc O h (fun h hb=>?_) (fun h hb=>?_)))))))
 ·
  refine Gr (hK17 (Gx (Jr fun hK19=>(Rc (G0 s16.1) O (Rc (G0 s16.2) O ?_)))))
  obtain⟨v20,hv20,h⟩:=Jb h
  refine JLh (G0 v20) (Hv hv20 O O O) O (JLh (.sc (.int .u64 (IntKind.u64.wrap v20))) (G79 J01 Zs O O O) O (JLh (.sc (.int .u64 (G69 .u64 (IntKind.u64.wrap v20) 1))) (Hc1 (s:=1) O O O O) O ?_))
  obtain⟨v21,hv21,h⟩:=Jb h
  refine JLh (G0 v21) (G79 Zs J01 hv21 O O) O (Rc (G0 v21) O (G7 (hK19 (Jr fun hK22=>(Rc (E0 x) O (Rc (G0 v21) O ?_))))))
  obtain⟨m24,y23,hm24,hy23,h⟩:=Rh h
  refine JLh (.dptr [G0 y23]) (H9 (f:=G0) (xs:=x) (y:=y23) O O O Gq hy23 hm24) O (JLh (G0 y23) (Gi Gd O O O) O (Rc (G0 target) O ?_))
  obtain⟨r25,hr25,h⟩:=Gf h
  refine JLh (BL r25) (Gu O (Hbe y23 target r25 hr25) Jae ⟨O,O,O,O,G⟩) O (G7 (hK22 (JCc O h (fun h hb=>?_) (fun h hb=>?_))))
  ·
   refine G4 (Rc (G0 v21) O ?_)
   obtain⟨v26,hv26,h⟩:=Jb h
   refine JLh (G0 v26) (Hv hv26 O O O) O (Rc (G0 v26) O (G7 (e16 _ _ m16 (v26,s16.2) (app1 hn16 h) (by omega) ⟨(by repeat' constructor),G,rfl⟩)))
  ·
   refine G4 (Rc (G0 v21) O (Rc (G0 v21) O (G7 (e16 _ _ m16 (s16.1,v21) (app1 hn16 h) (by omega) ⟨(by repeat' constructor),G,rfl⟩))))
 ·
  refine J5 (hK4 (Jr fun hK27=>(Rc (G0 s16.1) O (Rc (G0 s16.1) O (Rc (Ej x.length) O (JLh (BL (decide (s16.1 < (x.length:Int)))) (Jp O O O) O (Rc (BL (decide (s16.1 < (x.length:Int)))) O (JLo (E0 x) [] O .sct G (fun hc=>G5 O O) O (JLo (G0 s16.1) [] O .sct G (fun hc=>G5 O O) O ?_)))))))))
  obtain⟨y28,hy28,h⟩:=Gf h
  refine JLo (.dptr [G0 y28]) [36,37] O .sct ⟨Ua,Ua,G⟩ (fun hc=>(match Yv (H3 hc hy28) with | ⟨_,hm_,hy_⟩=>H9 (f:=G0) (xs:=x) (y:=y28) O O O Gq hy_ hm_)) O (JLo (G0 y28) [38] O .sct ⟨Ua,G⟩ (fun hc=>Gi Gd O O O) O (JLo (G0 target) [] O .sct G (fun hc=>G5 O O) O (JLo (BL (decide (y28=target))) [39,40] O .sct ⟨Ua,Ua,G⟩ (fun hc=>Jv O O O) O (JLo (BL (decide (y28=target))) [41] O .sct ⟨Ua,G⟩ (fun hc=>G5 O O) O (JLo (E0 x) [] O .optf G (fun hc=>G5 O O) O (JLo (G0 s16.1) [] O .optf G (fun hc=>G5 O O) O ?_))))))
  obtain⟨y29,hy29,h⟩:=Gf h
  refine JLo (.dptr [G0 y29]) [43,44] O .optf ⟨Ua,Ua,G⟩ (fun hc=>(match Yv (H3 hc hy29) with | ⟨_,hm_,hy_⟩=>H9 (f:=G0) (xs:=x) (y:=y29) O O O Gq hy_ hm_)) O (JLo (G0 y29) [45] O .optf ⟨Ua,G⟩ (fun hc=>Gi Gd O O O) O ?_)
  obtain⟨r30,hr30,h⟩:=Gf h
  refine JLo (BL r30) [46] O .optf ⟨Ua,G⟩ (fun hc=>Gu (args:=[G0 y29]) O (G8d y29 r30 (H3 hc hr30)) J10 ⟨O,O,G⟩) O (JLo (BL r30) [47] O .optf ⟨Ua,G⟩ (fun hc=>G5 O O) O (JLo (G0 target) [] O .optt G (fun hc=>G5 O O) O ?_))
  obtain⟨r31,hr31,h⟩:=Gf h
  refine JLo (BL r31) [49] O .optt ⟨Ua,G⟩ (fun hc=>Gu (args:=[G0 target]) O (G8d target r31 (H3 hc hr31)) J10 ⟨O,O,G⟩) O (Gc (u:=BL (r30&&r31)) [(48,BL r30),(50,_)] O O O .optf ⟨.all id,.part,G⟩ (fun hc=>Q6 O O O O) ?_)
  refine Gc (u:=BL ((decide (y28=target))||(r30&&r31))) [(42,BL (decide (y28=target))),(51,_)] O O O .sct ⟨.all id,.part,G⟩ (fun hc=>G25 O O O O) ?_
  refine JLh (BL ((decide (s16.1 < (x.length:Int)))&&((decide (y28=target))||(r30&&r31)))) (Q6 O O O O) O (Rc (G0 s16.1) O (Rc (BL ((decide (s16.1 < (x.length:Int)))&&((decide (y28=target))||(r30&&r31)))) O (G7 (hK27 (Gv (⟨[G0 s16.1,BL ((decide (s16.1 < (x.length:Int)))&&((decide (y28=target))||(r30&&r31)))],[],G,O,⟨⟨_,O,.conv (.same O)⟩,⟨_,O,.conv (.same O)⟩,G⟩,O,congrArg (fun r:Int×Bool=>(.tup [G0 r.1,BL r.2]:AV)) (Option.some.inj h)⟩))))))

def G01 (F:Nat) (s:Gt) (boxes:List Ga) (l:List Stowed) (open_:List Int) (cover:Int):Option ((List Int)×Int):=
 bnd (Qa s boxes l open_) fun r4=>
 bif (!r4) then
 (some ([],2))
 else
 (bif ((decide (cover < 0))||(decide ((s.Covers.length:Int)≤cover))) then
  (some ([],6))
  else
  (bnd (G53 s l cover) fun r9=>
   bif decide (0 < (r9.length:Int)) then
   (some ([],95))
   else
   (bnd (Qe F open_ cover) fun r12=>
    bif r12.2 then
    (bnd (Q3 open_) fun r16=>
     some (r16,0))
    else
    (bnd (G08 open_ r12.1 cover) fun r18=>
     some (r18,0)))))
theorem G81 (F:Nat) (s:Gt) (boxes:List Ga) (l:List Stowed) (open_:List Int) (cover:Int) (r:(List Int)×Int) (h:G01 F s boxes l open_ cover=some r):Pure Ek 13 [.agg (Gt.cs s),E2 boxes,E1 l,E0 open_,G0 cover] (·=.tup [E0 r.1,G0 r.2]):=by
 unfold G01 at h
 refine H4 [.tmp 10,.tmp 11] Tryz.func13 O O (Jr fun hK1=>(JLh (.ptr 1039 0) (Jz (cs:=(Gt.cs s)) 1039 O O O O O) O (JLh (E0 ([]:List Int)) (Hi 1 O O) O (Rc (G0 0) O (G7 (hK1 ?_))))))
 refine Gs [(1,E2 boxes),(2,E1 l),(3,E0 open_),(4,G0 cover),(5,Ec s)] [] 1039 rfl rfl rfl G rfl (by repeat' (first | exact .ptr | constructor)) (Js fun hK2=>Gx ?_)
 refine Jr fun hK3=>(JLh (.agg (Gt.cs s)) (Gh H6 O O O) O (Rc (E2 boxes) O (Rc (E1 l) O (Rc (E0 open_) O ?_))))
 obtain⟨r4,hr4,h⟩:=Gf h
 refine JLh (BL r4) (Gu O (Zt s boxes l open_ r4 hr4) Gb1 ⟨O,O,O,O,O,O,O,O,G⟩) O (JLh (BL (!r4)) (Zd (b:=r4) O O) O (Rc (BL (!r4)) O (G7 (hK3 (JCc O h (fun h hb=>?_) (fun h hb=>?_))))))
 ·
  refine Jr fun hK5=>(JLh (E0 ([]:List Int)) (Hi 1 O O) O (Rc (G0 2) O (G7 (hK5 (Gv (⟨[E0 ([]:List Int),G0 2],[],G,O,⟨⟨_,O,.conv (.same O)⟩,⟨_,O,.conv (.same O)⟩,G⟩,O,congrArg (fun r:(List Int)×Int=>(.tup [E0 r.1,G0 r.2]:AV)) (Option.some.inj h)⟩))))))
 ·
  refine Jr fun hK6=>(Rc (G0 cover) O (JLh (BL (decide (cover < 0))) (Jp O O O) O (Rc (BL (decide (cover < 0))) O (JLo (G0 cover) [] O .scf G (fun hc=>G5 O O) O (JLo (.dptr [E6 s.Covers,G0 s.Light.Kilos,G0 s.Light.X,G0 s.Light.Y,G0 s.Light.Z,E3 s.Rows,E4 s.Frames,E5 s.Tanks,G0 s.G2.Tolerance,G0 s.G2.Trim,G0 s.G2.List_,G0 s.G2.Stability]) [] O .scf G (fun hc=>Gb Hu O O O) O (JLo (E6 s.Covers) [26] O .scf ⟨Ua,G⟩ (fun hc=>Gi J9 O O O) O (JLo (Ej s.Covers.length) [27] O .scf ⟨Ua,G⟩ (fun hc=>Yn (f:=G9.av) (xs:=s.Covers) J7 O O) O (JLo (BL (decide ((s.Covers.length:Int)≤cover))) [25,28] O .scf ⟨Ua,Ua,G⟩ (fun hc=>G9a O O O) O (JLh (BL ((decide (cover < 0))||(decide ((s.Covers.length:Int)≤cover)))) (G25 O O O O) O (Rc (BL ((decide (cover < 0))||(decide ((s.Covers.length:Int)≤cover)))) O (G7 (hK6 ?_))))))))))))
  refine JCc O h (fun h hb=>?_) (fun h hb=>?_)
  ·
   refine Jr fun hK7=>(JLh (E0 ([]:List Int)) (Hi 1 O O) O (Rc (G0 6) O (G7 (hK7 (Gv (⟨[E0 ([]:List Int),G0 6],[],G,O,⟨⟨_,O,.conv (.same O)⟩,⟨_,O,.conv (.same O)⟩,G⟩,O,congrArg (fun r:(List Int)×Int=>(.tup [E0 r.1,G0 r.2]:AV)) (Option.some.inj h)⟩))))))
  ·
   refine Jr fun hK8=>(JLh (.agg (Gt.cs s)) (Gh H6 O O O) O (Rc (E1 l) O (Rc (G0 cover) O ?_)))
   obtain⟨r9,hr9,h⟩:=Gf h
   refine JLh (E0 r9) (Gu O (H57 s l cover r9 hr9) J1c ⟨O,O,O,O,O,O,G⟩) O (JLl Gq O O O fun hm36=>(JLh (BL (decide (0 < (r9.length:Int)))) (G99 O O O) O (Rc (BL (decide (0 < (r9.length:Int)))) O (G7 (hK8 (JCc O h (fun h hb=>?_) (fun h hb=>?_)))))))
   ·
    refine Jr fun hK10=>(JLh (E0 ([]:List Int)) (Hi 1 O O) O (Rc (G0 95) O (G7 (hK10 (Gv (⟨[E0 ([]:List Int),G0 95],[],G,O,⟨⟨_,O,.conv (.same O)⟩,⟨_,O,.conv (.same O)⟩,G⟩,O,congrArg (fun r:(List Int)×Int=>(.tup [E0 r.1,G0 r.2]:AV)) (Option.some.inj h)⟩))))))
   ·
    refine Gr (hK2 (Jr fun hK11=>(Rc (E0 open_) O (Rc (G0 cover) O ?_))))
    obtain⟨r12,hr12,h⟩:=Gf h
    refine JLh (.tup [G0 r12.1,BL r12.2]) (Gu O (G14 F open_ cover r12 hr12) J1b ⟨O,O,O,O,G⟩) O (Rc (.tup [G0 r12.1,BL r12.2]) O (JLh (G0 r12.1) (H2 O O O) O (JLh (BL r12.2) (H2 O O O) O (Rc (G0 r12.1) O (Rc (BL r12.2) O (G7 (hK11 (Js fun hK13=>Jr fun hK14=>(Rc (BL r12.2) O (G7 (hK14 (JCc O h (fun h hb=>?_) (fun h hb=>?_)))))))))))))
    ·
     refine Jr fun hK15=>(Rc (E0 open_) O ?_)
     obtain⟨r16,hr16,h⟩:=Gf h
     refine JLh (E0 r16) (Gu O (G8e open_ r16 hr16) J1a ⟨O,O,G⟩) O (Rc (E0 r16) O (Rc (G0 0) O (G7 (hK15 (Gv (⟨[E0 r16,G0 0],[],G,O,⟨⟨_,O,.conv (.same O)⟩,⟨_,O,.conv (.same O)⟩,G⟩,O,congrArg (fun r:(List Int)×Int=>(.tup [E0 r.1,G0 r.2]:AV)) (Option.some.inj h)⟩))))))
    ·
     refine Gr (hK13 (Jr fun hK17=>(Rc (E0 open_) O (Rc (G0 r12.1) O (Rc (G0 cover) O ?_)))))
     obtain⟨r18,hr18,h⟩:=Gf h
     refine JLh (E0 r18) (Gu O (H95.down open_ r12.1 cover r18 hr18) Jba ⟨O,O,O,O,O,O,G⟩) O (Rc (E0 r18) O (Rc (G0 0) O (G7 (hK17 (Gv (⟨[E0 r18,G0 0],[],G,O,⟨⟨_,O,.conv (.same O)⟩,⟨_,O,.conv (.same O)⟩,G⟩,O,congrArg (fun r:(List Int)×Int=>(.tup [E0 r.1,G0 r.2]:AV)) (Option.some.inj h)⟩))))))

def Yj (p:Hd):Option Bool:=
 bnd (Z3 p.s p.x.Slot.G3) fun r4=>
 bnd (bif decide (0≤r4) then Ym p.s.Columns p.x.Slot.G3 some else some default) fun y6=>
 bnd (bif decide (0≤r4) then Qj p.open_ r4 else some default) fun r7=>
 some ((decide (0≤r4))&&(y6.Deck==r7))
theorem H1e (p:Hd) (r:Bool) (h:Yj p=some r):Pure Ek 39 [.agg (Hd.cs p)] (·=BL r):=by
 unfold Yj at h
 refine H4 [.tmp 2] Tryz.func39 O O (Jr fun hK1=>(JLh (.ptr 1078 0) (Jz (cs:=(Hd.cs p)) 1078 O O O O O) O (Rc (BL false) O (G7 (hK1 ?_)))))
 refine Gs [(1,Eg p)] [] 1078 rfl rfl rfl G rfl (by exact⟨.ptr,G⟩) (Jr fun hK2=>(JLh (Ed p.x) (Gb G0c O O O) O (JLh (.dptr ((Stowed.cs p.x).drop 1)) (Gb J6 O O O) O (JLh (.dptr ((Stowed.cs p.x).drop 1)) (Gb Jd O O O) O (JLh (G0 p.x.Slot.G3) (Gi Gd O O O) O (Rc (G0 p.x.Slot.G3) O (G7 (hK2 ?_))))))))
 refine Jr fun hK3=>(JLh (Eg p) (Gb Gda O O O) O (JLh (.agg (Gt.cs p.s)) (Gh H6 O O O) O (Rc (G0 p.x.Slot.G3) O ?_)))
 obtain⟨r4,hr4,h⟩:=Gf h
 refine JLh (G0 r4) (Gu O (Gf3 p.s p.x.Slot.G3 r4 hr4) J13 ⟨O,O,O,O,G⟩) O (Rc (G0 r4) O (G7 (hK3 (Js fun hK5=>?_))))
 obtain⟨y6,hy6,h⟩:=Gf h
 obtain⟨r7,hr7,h⟩:=Gf h
 refine JC_d0 Jx (by kernel_rfl) (Dq (G0 r4) (G5 O O) O (Dq (BL (decide (0≤r4))) (G9a O O O) O (Dq (BL (decide (0≤r4))) (G5 O O) O (Do (Eg p) [] O .sct G (fun hc=>Gb Gda O O O) O (Do (Eg p) [16] O .sct ⟨Ua,G⟩ (fun hc=>Gb Hm O O O) O (Do (E7 p.s.Columns) [17] O .sct ⟨Ua,G⟩ (fun hc=>Gi J3 O O O) O (Do (G0 p.x.Slot.G3) [] O .sct G (fun hc=>G5 O O) O (Do (Ee y6) [18,19] O .sct ⟨Ua,Ua,G⟩ (fun hc=>(match Yv (H3 hc hy6) with | ⟨_,hm_,hy_⟩=>H9 (f:=G3.av) (xs:=p.s.Columns) (y:=y6) O O O Hq hy_ hm_)) O (Do (.dptr ((G3.cs y6).drop 2)) [20] O .sct ⟨Ua,G⟩ (fun hc=>Gb R1 O O O) O (Do (BL y6.Deck) [21] O .sct ⟨Ua,G⟩ (fun hc=>Gi Jn O O O) O (Do (.dptr [E0 p.open_,G0 p.x.Ga,G0 p.x.Slot.G3,G0 p.x.Slot.Tier,U8 p.x.Slot.Half]) [] O .sct G (fun hc=>Gb J62 O O O) O (Do (E0 p.open_) [23] O .sct ⟨Ua,G⟩ (fun hc=>Gi Qp O O O) O (Do (G0 r4) [] O .sct G (fun hc=>G5 O O) O ?_)))))))))))))
 refine Do (BL r7) [24,25] O .sct ⟨Ua,Ua,G⟩ (fun hc=>Gu (args:=[E0 p.open_,G0 r4]) O (Zw p.open_ r4 r7 (H3 hc hr7)) H62 ⟨O,O,O,O,G⟩) O (Do (BL (y6.Deck==r7)) [22,26] O .sct ⟨Ua,Ua,G⟩ (fun hc=>H9e Gac O O O) O (Dq (BL ((decide (0≤r4))&&(y6.Deck==r7))) (Q6 O O O O) O (Dq (BL ((decide (0≤r4))&&(y6.Deck==r7))) (G8 O O) O (Dnil (hK5 (Gv (fin1 BL h)))))))

def Qo (y:Stowed) (p1:Hd):Option Bool:=
 bnd (G56 p1.x.Slot y.Slot) fun r3=>
 some r3
theorem H12 (y:Stowed) (p1:Hd) (r:Bool) (h:Qo y p1=some r):Pure Ek 70 [.agg (Stowed.cs y),Eg p1] (·=BL r):=by
 unfold Qo at h
 refine H4 [.tmp 3] Tryz.func70 O O (Jr fun hK1=>(JLh (.ptr 1107 0) (Jz (cs:=[G0 y.Ga,G0 y.Slot.G3,G0 y.Slot.Tier,U8 y.Slot.Half]) 1107 O O O O O) O (Rc (BL false) O (G7 (hK1 (Gs [(1,Eg p1),(2,Ed y)] [] 1107 rfl rfl rfl G rfl (by exact⟨.conv (.same rfl),.ptr,G⟩) (Jr fun hK2=>(JLh (.dptr ((Hd.cs p1).drop 16)) (Gb G0c O O O) O (JLh (.dptr ((Hd.cs p1).drop 17)) (Gb J6 O O O) O (JLh (.agg ((Hd.cs p1).drop 17)) (Gh Q4 O O O) O (JLh (.dptr ((Stowed.cs y).drop 1)) (Gb J6 O O O) O (JLh (.agg ((Stowed.cs y).drop 1)) (Gh Q4 O O O) O ?_))))))))))))
 obtain⟨r3,hr3,h⟩:=Gf h
 refine JLh (BL r3) (Gu O (H5a p1.x.Slot y.Slot r3 hr3) J15 ⟨O,O,O,O,G⟩) O (Rc (BL r3) O (G7 (hK2 (Gv (fin1 BL h)))))

def Qn (s:List Stowed) (f:Stowed→Option Bool):Option Bool:=
 bnd (Qf s f) fun r3=>
 some (decide (0≤r3))
theorem G5c (s:List Stowed) (f:Stowed→Option Bool) (f_f:FuncId) (f_c:List AV) (f_B:Hf Ek f_f=true) (f_d:Y6 (fun _=>false) f_c=true) (f_w:∀ a0 q,f a0=some q→Pure Ek f_f ([.agg (Stowed.cs a0)]++f_c) (·=BL q)) (r:Bool) (h:Qn s f=some r):Pure Ek 69 [E1 s,.fn f_f f_c] (·=BL r):=by
 unfold Qn at h
 refine H4 [.tmp 4] Tryz.func69 O O (Jr fun hK1=>(Rc (BL false) O (G7 (hK1 (Jr fun hK2=>(Rc (E1 s) O (Rc (.fn f_f f_c) O ?_)))))))
 obtain⟨r3,hr3,h⟩:=Gf h
 refine JLh (G0 r3) (Gu O (Zv s f f_f f_c f_B f_d f_w r3 hr3) J12 ⟨O,O,O,f_d,G⟩) O (JLh (BL (decide (0≤r3))) (G9a O O O) O (Rc (BL (decide (0≤r3))) O (G7 (hK2 (Gv (fin1 BL h))))))

def Z0 (p:Hd):Option Bool:=
 bnd (Qn p.l (fun z0=>Qo z0 p)) fun r3=>
 some r3
theorem H38 (p:Hd) (r:Bool) (h:Z0 p=some r):Pure Ek 40 [.agg (Hd.cs p)] (·=BL r):=by
 unfold Z0 at h
 refine H4 [.tmp 2] Tryz.func40 O O (Jr fun hK1=>(JLh (.ptr 1079 0) (Jz (cs:=(Hd.cs p)) 1079 O O O O O) O (Rc (BL false) O (G7 (hK1 ?_)))))
 refine Gs [(1,Eg p)] [] 1079 rfl rfl rfl G rfl (by exact⟨.ptr,G⟩) ?_
 refine Jr fun hK2=>(JLh (.dptr [E1 p.l,E0 p.open_,G0 p.x.Ga,G0 p.x.Slot.G3,G0 p.x.Slot.Tier,U8 p.x.Slot.Half]) (Gb G3a O O O) O (JLh (E1 p.l) (Gi Rg O O O) O (JLh (.fn 70 [.dptr (Hd.cs p)]) (Z4 (cs:=[.dptr (Hd.cs p)]) O O) O ?_)))
 obtain⟨r3,hr3,h⟩:=Gf h
 refine JLh (BL r3) (Gu O (G5c p.l (fun z0=>Qo z0 p) 70 [.dptr (Hd.cs p)] Ja8 O (fun z0 q hq=>H12 z0 p q hq) r3 hr3) Ja9 ⟨O,O,O,O,G⟩) O (Rc (BL r3) O (G7 (hK2 (Gv (fin1 BL h)))))

def Za (p:Hd):Option Bool:=
 bnd (G2d p.l) fun r3=>
 bnd (G57 p.x.Slot r3) fun r4=>
 some (!r4)
theorem H13 (p:Hd) (r:Bool) (h:Za p=some r):Pure Ek 41 [.agg (Hd.cs p)] (·=BL r):=by
 unfold Za at h
 refine H4 [.tmp 2] Tryz.func41 O O (Jr fun hK1=>(JLh (.ptr 1080 0) (Jz (cs:=(Hd.cs p)) 1080 O O O O O) O (Rc (BL false) O (G7 (hK1 ?_)))))
 refine Gs [(1,Eg p)] [] 1080 rfl rfl rfl G rfl (by exact⟨.ptr,G⟩) (Js fun hK2=>?_)
 obtain⟨r3,hr3,h⟩:=Gf h
 obtain⟨r4,hr4,h⟩:=Gf h
 refine JC_d0 Jx (by kernel_rfl) (Dq (Ed p.x) (Gb G0c O O O) O (Dq (.dptr ((Stowed.cs p.x).drop 1)) (Gb J6 O O O) O (Dq (.agg ((Stowed.cs p.x).drop 1)) (Gh Q4 O O O) O (Dq (.dptr [E1 p.l,E0 p.open_,G0 p.x.Ga,G0 p.x.Slot.G3,G0 p.x.Slot.Tier,U8 p.x.Slot.Half]) (Gb G3a O O O) O (Dq (E1 p.l) (Gi Rg O O O) O (Dq (E8 r3) (Gu (args:=[E1 p.l]) O (H37 p.l r3 hr3) J17 ⟨O,O,G⟩) O (Dq (BL r4) (Gu (args:=[.agg ((Stowed.cs p.x).drop 1),E8 r3]) O (H5b p.x.Slot r3 r4 hr4) J16 ⟨O,O,O,O,G⟩) O (Dq (BL (!r4)) (Zd (b:=r4) O O) O (Dq (BL (!r4)) (G8 O O) O (Dnil (hK2 (Gv (fin1 BL h)))))))))))))

def Qy (F:Nat) (p:Hd):Option (List Stowed):=
 loop (fun nx10 (s10:Int)=>
  bnd (bif decide (s10 < (p.l.length:Int)) then Ym p.l s10 some else some default) fun y13=>
  bif ((decide (s10 < (p.l.length:Int)))&&(decide (y13.Ga < p.x.Ga))) then
  (G07 (s10+1) fun v14=>
   nx10 v14)
  else
  (bnd (Qx p.l s10 p.x) fun r16=>
   some r16)) F 0
theorem G54 (F:Nat) (p:Hd) (r:(List Stowed)) (h:Qy F p=some r):Pure Ek 43 [.agg (Hd.cs p)] (·=E1 r):=by
 unfold Qy at h
 refine H4 [.tmp 2] Tryz.func43 O O (Jr fun hK1=>(JLh (.ptr 1082 0) (Jz (cs:=(Hd.cs p)) 1082 O O O O O) O (JLh (E1 ([]:List Stowed)) (Hi 4 O O) O (G7 (hK1 ?_)))))
 refine Gs [(1,Eg p)] [] 1082 rfl rfl rfl G rfl (by exact⟨.ptr,G⟩) (Jr fun hK2=>(Rc (G0 0) O (G7 (hK2 (Js fun hK3=>Gx ?_)))))
 obtain⟨b10,hb10,h⟩:=loop_in h
 refine Hy (fun i10 (s10:Int)=>loop b10 i10 s10=some r) (fun i10 s10=>[(1,Eg p),(3,G0 s10)]) (fun i10 s10=>[]) (fun i10=>i10) F 0 h ⟨⟨.same O,.same O,G⟩,G,O⟩ ?_
 clear h
 intro i10 s10 hi10 K10 e10
 obtain⟨m10,nx10,hm_10,hn10,h⟩:=loop_out hi10
 replace h:=app2 hb10 h
 refine Js fun hK11=>Js fun hK12=>?_
 obtain⟨y13,hy13,h⟩:=Gf h
 refine JC_d0 Jx (by kernel_rfl) (Dq (G0 s10) (G5 O O) O (Dq (.dptr [E1 p.l,E0 p.open_,G0 p.x.Ga,G0 p.x.Slot.G3,G0 p.x.Slot.Tier,U8 p.x.Slot.Half]) (Gb G3a O O O) O (Dq (E1 p.l) (Gi Rg O O O) O (Dq (Ej p.l.length) (Yn (f:=Stowed.av) (xs:=p.l) H0 O O) O (Dq (BL (decide (s10 < (p.l.length:Int)))) (Jp O O O) O (Dq (BL (decide (s10 < (p.l.length:Int)))) (G5 O O) O (Do (.dptr [E1 p.l,E0 p.open_,G0 p.x.Ga,G0 p.x.Slot.G3,G0 p.x.Slot.Tier,U8 p.x.Slot.Half]) [] O .sct G (fun hc=>Gb G3a O O O) O (Do (E1 p.l) [10] O .sct ⟨Ua,G⟩ (fun hc=>Gi Rg O O O) O (Do (G0 s10) [] O .sct G (fun hc=>G5 O O) O (Do (Ed y13) [11,12] O .sct ⟨Ua,Ua,G⟩ (fun hc=>(match Yv (H3 hc hy13) with | ⟨_,hm_,hy_⟩=>H9 (f:=Stowed.av) (xs:=p.l) (y:=y13) O O O H0 hy_ hm_)) O (Do (Ed y13) [13] O .sct ⟨Ua,G⟩ (fun hc=>Gb Ht O O O) O (Do (G0 y13.Ga) [14] O .sct ⟨Ua,G⟩ (fun hc=>Gi Gd O O O) O (Do (Ed p.x) [] O .sct G (fun hc=>Gb G0c O O O) O ?_)))))))))))))
 refine Do (Ed p.x) [16] O .sct ⟨Ua,G⟩ (fun hc=>Gb Ht O O O) O (Do (G0 p.x.Ga) [17] O .sct ⟨Ua,G⟩ (fun hc=>Gi Gd O O O) O (Do (BL (decide (y13.Ga < p.x.Ga))) [15,18] O .sct ⟨Ua,Ua,G⟩ (fun hc=>Jp O O O) O (Dq (BL ((decide (s10 < (p.l.length:Int)))&&(decide (y13.Ga < p.x.Ga)))) (Q6 O O O O) O (Dnil (hK12 (JCc O h (fun h hb=>?_) (fun h hb=>?_)))))))
 ·
  refine Gr (hK11 (Gx (G4 (Rc (G0 s10) O ?_))))
  obtain⟨v14,hv14,h⟩:=Jb h
  refine JLh (G0 v14) (Hv hv14 O O O) O (Rc (G0 v14) O (G7 (e10 _ _ m10 v14 (app1 hn10 h) (by omega) ⟨⟨.same rfl,.same rfl,G⟩,G,rfl⟩)))
 ·
  refine J5 (hK3 (Jr fun hK15=>(JLh (.dptr [E1 p.l,E0 p.open_,G0 p.x.Ga,G0 p.x.Slot.G3,G0 p.x.Slot.Tier,U8 p.x.Slot.Half]) (Gb G3a O O O) O (JLh (E1 p.l) (Gi Rg O O O) O (Rc (G0 s10) O (JLh (Ed p.x) (Gb G0c O O O) O (JLh (.agg (Stowed.cs p.x)) (Gh Qw O O O) O ?_)))))))
  obtain⟨r16,hr16,h⟩:=Gf h
  refine JLh (E1 r16) (Gu O (Gef.down p.l s10 p.x r16 hr16) Ja7 ⟨O,O,O,O,O,O,G⟩) O (Rc (E1 r16) O (G7 (hK15 (Gv (fin1 (fun r:(List Stowed)=>(E1 r:AV)) h)))))

def Zr (F:Nat) (p:Hd):Option Bool:=
 bnd (Qy F p) fun r3=>
 bnd (G1e p.s p.boxes r3 p.x.Slot.G3) fun r4=>
 some (!r4)
theorem H1f (F:Nat) (p:Hd) (r:Bool) (h:Zr F p=some r):Pure Ek 42 [.agg (Hd.cs p)] (·=BL r):=by
 unfold Zr at h
 refine H4 [.tmp 2] Tryz.func42 O O (Jr fun hK1=>(JLh (.ptr 1081 0) (Jz (cs:=(Hd.cs p)) 1081 O O O O O) O (Rc (BL false) O (G7 (hK1 ?_)))))
 refine Gs [(1,Eg p)] [] 1081 rfl rfl rfl G rfl (by exact⟨.ptr,G⟩) (Js fun hK2=>?_)
 obtain⟨r3,hr3,h⟩:=Gf h
 obtain⟨r4,hr4,h⟩:=Gf h
 refine JC_d0 Jx (by kernel_rfl) (Dq (Eg p) (Gb Gda O O O) O (Dq (.agg (Gt.cs p.s)) (Gh H6 O O O) O (Dq (.dptr [E2 p.boxes,E1 p.l,E0 p.open_,G0 p.x.Ga,G0 p.x.Slot.G3,G0 p.x.Slot.Tier,U8 p.x.Slot.Half]) (Gb J63 O O O) O (Dq (E2 p.boxes) (Gi J6f O O O) O (Dq (.agg (Hd.cs p)) (Gh Gad O O O) O (Dq (E1 r3) (Gu (args:=[.agg (Hd.cs p)]) O (G54 F p r3 hr3) J18 ⟨O,O,G⟩) O (Dq (Ed p.x) (Gb G0c O O O) O (Dq (.dptr ((Stowed.cs p.x).drop 1)) (Gb J6 O O O) O (Dq (.dptr ((Stowed.cs p.x).drop 1)) (Gb Jd O O O) O (Dq (G0 p.x.Slot.G3) (Gi Gd O O O) O (Dq (BL r4) (Gu (args:=[.agg (Gt.cs p.s),E2 p.boxes,E1 r3,G0 p.x.Slot.G3]) O (H58 p.s p.boxes r3 p.x.Slot.G3 r4 hr4) J14 ⟨O,O,O,O,O,O,O,O,G⟩) O (Dq (BL (!r4)) (Zd (b:=r4) O O) O (Dq (BL (!r4)) (G8 O O) O (Dnil ?_))))))))))))))
 refine hK2 (Gv (fin1 BL h))

def Z1 (F:Nat) (s:Gt) (boxes:List Ga) (l:List Stowed) (open_:List Int) (x:Stowed):Option ((List Stowed)×Int):=
 bnd (Qa s boxes l open_) fun r4=>
 bif (!r4) then
 (some ([],2))
 else
 (bnd (G1f boxes x.Ga) fun r7=>
  bif ((!r7.2)||((decide (r7.1.Size≠20))&&(decide (r7.1.Size≠40)))) then
  (some ([],6))
  else
  (bnd (R7 l x.Ga) fun r12=>
   bif decide (0≤r12) then
   (some ([],96))
   else
   (bnd (G30 s x.Slot r7.1.Size) fun r15=>
    bif (!r15) then
    (some ([],97))
    else
    (need (decide (4≤9223372036854775807)) <|
     upto (fun i60 (s60:Unit) nx60=>
      jp (fun kj63=>
       bif decide ((i60:Int)=0) then
       (bnd (Yj (Hd.mk s boxes l open_ x)) fun r67=>
        bif r67 then
        (G07 (91+(i60:Int)) fun v69=>
         some ([],v69))
        else
        (kj63 ()))
       else
       (bif decide ((i60:Int)=1) then
        (bnd (Z0 (Hd.mk s boxes l open_ x)) fun r71=>
         bif r71 then
         (G07 (91+(i60:Int)) fun v73=>
          some ([],v73))
         else
         (kj63 ()))
        else
        (bif decide ((i60:Int)=2) then
         (bnd (Za (Hd.mk s boxes l open_ x)) fun r75=>
          bif r75 then
          (G07 (91+(i60:Int)) fun v77=>
           some ([],v77))
          else
          (kj63 ()))
         else
         (bif decide ((i60:Int)=3) then
          (bnd (Zr F (Hd.mk s boxes l open_ x)) fun r79=>
           bif r79 then
           (G07 (91+(i60:Int)) fun v81=>
            some ([],v81))
           else
           (kj63 ()))
          else
          (none))))) fun(j63:Unit)=>
      nx60 ())
     (fun(s60:Unit)=>
      bnd (Qy F (Hd.mk s boxes l open_ x)) fun r83=>
      some (r83,0)) (4:Int).toNat 0 ()))))
theorem G2f (F:Nat) (s:Gt) (boxes:List Ga) (l:List Stowed) (open_:List Int) (x:Stowed) (r:(List Stowed)×Int) (h:Z1 F s boxes l open_ x=some r):Pure Ek 16 [.agg (Gt.cs s),E2 boxes,E1 l,E0 open_,.agg (Stowed.cs x)] (·=.tup [E1 r.1,G0 r.2]):=by
 unfold Z1 at h
 refine H4 [.tmp 10,.tmp 11] Tryz.func16 O O (Jr fun hK1=>(JLh (.ptr 1042 0) (Jz (cs:=(Gt.cs s)) 1042 O O O O O) O (JLh (.ptr 1043 0) (Jz (cs:=[G0 x.Ga,G0 x.Slot.G3,G0 x.Slot.Tier,U8 x.Slot.Half]) 1043 O O O O O) O (JLh (E1 ([]:List Stowed)) (Hi 4 O O) O (Rc (G0 0) O (G7 (hK1 ?_)))))))
 refine Gs [(1,E2 boxes),(2,E1 l),(3,E0 open_),(5,Ec s),(9,.ptr 1043 0)] [(1043,.box 47 [G0 x.Ga,G0 x.Slot.G3,G0 x.Slot.Tier,U8 x.Slot.Half])] 1042 rfl rfl rfl ⟨⟨_,rfl,.boxEq rfl rfl⟩,G⟩ rfl (by repeat' (first | exact .ptr | constructor)) ?_
 refine Gs [(1,E2 boxes),(2,E1 l),(3,E0 open_),(5,Ec s),(9,Ed x)] [] 1043 rfl rfl rfl G rfl (by repeat' (first | exact .ptr | constructor)) (Js fun hK2=>?_)
 refine Jr fun hK3=>(JLh (.agg (Gt.cs s)) (Gh H6 O O O) O (Rc (E2 boxes) O (Rc (E1 l) O (Rc (E0 open_) O ?_))))
 obtain⟨r4,hr4,h⟩:=Gf h
 refine JLh (BL r4) (Gu O (Zt s boxes l open_ r4 hr4) Gb1 ⟨O,O,O,O,O,O,O,O,G⟩) O (JLh (BL (!r4)) (Zd (b:=r4) O O) O (G7 (hK3 (JCc O h (fun h hb=>?_) (fun h hb=>?_)))))
 ·
  refine Jr fun hK5=>(JLh (E1 ([]:List Stowed)) (Hi 4 O O) O (Rc (G0 2) O (G7 (hK5 (Gv (⟨[E1 ([]:List Stowed),G0 2],[],G,O,⟨⟨_,O,.conv (.same O)⟩,⟨_,O,.conv (.same O)⟩,G⟩,O,congrArg (fun r:(List Stowed)×Int=>(.tup [E1 r.1,G0 r.2]:AV)) (Option.some.inj h)⟩))))))
 ·
  refine Gr (hK2 (Jr fun hK6=>(Rc (E2 boxes) O (JLh (Ed x) (Gb Ht O O O) O (JLh (G0 x.Ga) (Gi Gd O O O) O ?_)))))
  obtain⟨r7,hr7,h⟩:=Gf h
  refine JLh (.tup [.agg (Ga.cs r7.1),BL r7.2]) (Gu O (Ge2 boxes x.Ga r7 hr7) H61 ⟨O,O,O,O,G⟩) O (Rc (.tup [.agg (Ga.cs r7.1),BL r7.2]) O (JLh (.agg (Ga.cs r7.1)) (H2 O O O) O (JLh (BL r7.2) (H2 O O O) O (JLh (.ptr 1044 0) (Hs 1044 9 Y4 O O) O (Hz (u:=.junk) (Hh (u:=.agg (Ga.cs r7.1)) (ds:=(Ga.cs r7.1)) G18 O O O O O O O O) (Rc (BL r7.2) O (G7 (hK6 ?_))))))))
  refine Gs [(1,E2 boxes),(2,E1 l),(3,E0 open_),(5,Ec s),(9,Ed x),(12,Eh r7.1),(13,BL r7.2)] [] 1044 rfl rfl rfl G rfl (by repeat' (first | exact .ptr | constructor)) (Js fun hK8=>Gx ?_)
  refine Jr fun hK9=>(Rc (BL r7.2) O (JLh (BL (!r7.2)) (Zd (b:=r7.2) O O) O (Rc (BL (!r7.2)) O (JLo (.dptr ((Ga.cs r7.1).drop 2)) [] O .scf G (fun hc=>Gb Rz O O O) O (JLo (U8 r7.1.Size) [34] O .scf ⟨Ua,G⟩ (fun hc=>Gi Hw O O O) O (JLo (BL (decide (r7.1.Size≠20))) [35] O .scf ⟨Ua,G⟩ (fun hc=>G36 O O O) O (JLo (BL (decide (r7.1.Size≠20))) [36] O .scf ⟨Ua,G⟩ (fun hc=>G5 O O) O (JLo (.dptr ((Ga.cs r7.1).drop 2)) [] O .optt G (fun hc=>Gb Rz O O O) O (JLo (U8 r7.1.Size) [38] O .optt ⟨Ua,G⟩ (fun hc=>Gi Hw O O O) O (JLo (BL (decide (r7.1.Size≠40))) [39] O .optt ⟨Ua,G⟩ (fun hc=>G36 O O O) O (Gc (u:=BL ((decide (r7.1.Size≠20))&&(decide (r7.1.Size≠40)))) [(37,BL (decide (r7.1.Size≠20))),(40,_)] O O O .scf ⟨.all id,.part,G⟩ (fun hc=>Q6 O O O O) ?_)))))))))))
  refine JLh (BL ((!r7.2)||((decide (r7.1.Size≠20))&&(decide (r7.1.Size≠40))))) (G25 O O O O) O (Rc (BL ((!r7.2)||((decide (r7.1.Size≠20))&&(decide (r7.1.Size≠40))))) O (G7 (hK9 (JCc O h (fun h hb=>?_) (fun h hb=>?_)))))
  ·
   refine Jr fun hK10=>(JLh (E1 ([]:List Stowed)) (Hi 4 O O) O (Rc (G0 6) O (G7 (hK10 (Gv (⟨[E1 ([]:List Stowed),G0 6],[],G,O,⟨⟨_,O,.conv (.same O)⟩,⟨_,O,.conv (.same O)⟩,G⟩,O,congrArg (fun r:(List Stowed)×Int=>(.tup [E1 r.1,G0 r.2]:AV)) (Option.some.inj h)⟩))))))
  ·
   refine Jr fun hK11=>(Rc (E1 l) O (JLh (Ed x) (Gb Ht O O O) O (JLh (G0 x.Ga) (Gi Gd O O O) O ?_)))
   obtain⟨r12,hr12,h⟩:=Gf h
   refine JLh (G0 r12) (Gu O (G0e l x.Ga r12 hr12) G6e ⟨O,O,O,O,G⟩) O (JLh (BL (decide (0≤r12))) (G9a O O O) O (Rc (BL (decide (0≤r12))) O (G7 (hK11 (JCc O h (fun h hb=>?_) (fun h hb=>?_))))))
   ·
    refine Jr fun hK13=>(JLh (E1 ([]:List Stowed)) (Hi 4 O O) O (Rc (G0 96) O (G7 (hK13 (Gv (⟨[E1 ([]:List Stowed),G0 96],[],G,O,⟨⟨_,O,.conv (.same O)⟩,⟨_,O,.conv (.same O)⟩,G⟩,O,congrArg (fun r:(List Stowed)×Int=>(.tup [E1 r.1,G0 r.2]:AV)) (Option.some.inj h)⟩))))))
   ·
    refine Jr fun hK14=>(JLh (.agg (Gt.cs s)) (Gh H6 O O O) O (JLh (.dptr ((Stowed.cs x).drop 1)) (Gb J6 O O O) O (JLh (.agg ((Stowed.cs x).drop 1)) (Gh Q4 O O O) O (JLh (.dptr ((Ga.cs r7.1).drop 2)) (Gb Rz O O O) O (JLh (U8 r7.1.Size) (Gi Hw O O O) O ?_)))))
    obtain⟨r15,hr15,h⟩:=Gf h
    refine JLh (BL r15) (Gu O (H3a s x.Slot r7.1.Size r15 hr15) J19 ⟨O,O,O,O,O,O,G⟩) O (JLh (BL (!r15)) (Zd (b:=r15) O O) O (Rc (BL (!r15)) O (G7 (hK14 (JCc O h (fun h hb=>?_) (fun h hb=>?_))))))
    ·
     refine Jr fun hK16=>(JLh (E1 ([]:List Stowed)) (Hi 4 O O) O (Rc (G0 97) O (G7 (hK16 (Gv (⟨[E1 ([]:List Stowed),G0 97],[],G,O,⟨⟨_,O,.conv (.same O)⟩,⟨_,O,.conv (.same O)⟩,G⟩,O,congrArg (fun r:(List Stowed)×Int=>(.tup [E1 r.1,G0 r.2]:AV)) (Option.some.inj h)⟩))))))
    ·
     refine Gr (hK8 ?_)
     refine Jr fun hK17=>(JLh (.agg (Gt.cs s)) (Gh H6 O O O) O (Rc (E2 boxes) O (Rc (E1 l) O (Rc (E0 open_) O (JLh (.agg (Stowed.cs x)) (Gh Qw O O O) O (JLh (.agg [E7 s.Columns,E6 s.Covers,G0 s.Light.Kilos,G0 s.Light.X,G0 s.Light.Y,G0 s.Light.Z,E3 s.Rows,E4 s.Frames,E5 s.Tanks,G0 s.G2.Tolerance,G0 s.G2.Trim,G0 s.G2.List_,G0 s.G2.Stability,E2 boxes,E1 l,E0 open_,G0 x.Ga,G0 x.Slot.G3,G0 x.Slot.Tier,U8 x.Slot.Half]) (Hp (cs:=[E7 s.Columns,E6 s.Covers,G0 s.Light.Kilos,G0 s.Light.X,G0 s.Light.Y,G0 s.Light.Z,E3 s.Rows,E4 s.Frames,E5 s.Tanks,G0 s.G2.Tolerance,G0 s.G2.Trim,G0 s.G2.List_,G0 s.G2.Stability,E2 boxes,E1 l,E0 open_,G0 x.Ga,G0 x.Slot.G3,G0 x.Slot.Tier,U8 x.Slot.Half]) [(0,13),(13,1),(14,1),(15,1),(16,4)] [E7 ([]:List G3),E6 ([]:List G9),G0 0,G0 0,G0 0,G0 0,E3 ([]:List Row),E4 ([]:List Frame),E5 ([]:List Gm),G0 0,G0 0,G0 0,G0 0,E2 ([]:List Ga),E1 ([]:List Stowed),E0 ([]:List Int),G0 0,G0 0,G0 0,U8 0] [.slice none 0 0,.slice none 0 0,.int .i64 0,.int .i64 0,.int .i64 0,.int .i64 0,.slice none 0 0,.slice none 0 0,.slice none 0 0,.int .i64 0,.int .i64 0,.int .i64 0,.int .i64 0,.slice none 0 0,.slice none 0 0,.slice none 0 0,.int .i64 0,.int .i64 0,.int .i64 0,.int .u8 0] J70 J95 ⟨.inr ⟨_,O,O⟩,.inr ⟨_,O,O⟩,.inl O,.inl O,.inl O,.inl O,.inr ⟨_,O,O⟩,.inr ⟨_,O,O⟩,.inr ⟨_,O,O⟩,.inl O,.inl O,.inl O,.inl O,.inr ⟨_,O,O⟩,.inr ⟨_,O,O⟩,.inr ⟨_,O,O⟩,.inl O,.inl O,.inl O,.inl O,G⟩ O O) O (JLh (.ptr 1045 0) (Hs 1045 20 J77 O O) O (Hz (u:=.junk) (Hh (u:=.agg [E7 s.Columns,E6 s.Covers,G0 s.Light.Kilos,G0 s.Light.X,G0 s.Light.Y,G0 s.Light.Z,E3 s.Rows,E4 s.Frames,E5 s.Tanks,G0 s.G2.Tolerance,G0 s.G2.Trim,G0 s.G2.List_,G0 s.G2.Stability,E2 boxes,E1 l,E0 open_,G0 x.Ga,G0 x.Slot.G3,G0 x.Slot.Tier,U8 x.Slot.Half]) (ds:=[E7 s.Columns,E6 s.Covers,G0 s.Light.Kilos,G0 s.Light.X,G0 s.Light.Y,G0 s.Light.Z,E3 s.Rows,E4 s.Frames,E5 s.Tanks,G0 s.G2.Tolerance,G0 s.G2.Trim,G0 s.G2.List_,G0 s.G2.Stability,E2 boxes,E1 l,E0 open_,G0 x.Ga,G0 x.Slot.G3,G0 x.Slot.Tier,U8 x.Slot.Half]) J98 O O O O O O O O) (G7 (hK17 ?_))))))))))
     refine Gs [(14,.dptr [E7 s.Columns,E6 s.Covers,G0 s.Light.Kilos,G0 s.Light.X,G0 s.Light.Y,G0 s.Light.Z,E3 s.Rows,E4 s.Frames,E5 s.Tanks,G0 s.G2.Tolerance,G0 s.G2.Trim,G0 s.G2.List_,G0 s.G2.Stability,E2 boxes,E1 l,E0 open_,G0 x.Ga,G0 x.Slot.G3,G0 x.Slot.Tier,U8 x.Slot.Half])] [] 1045 rfl rfl rfl G rfl (by exact⟨.ptr,G⟩) (Js fun hK18=>?_)
     refine Jr fun hK19=>(JLh (.agg [E7 s.Columns,E6 s.Covers,G0 s.Light.Kilos,G0 s.Light.X,G0 s.Light.Y,G0 s.Light.Z,E3 s.Rows,E4 s.Frames,E5 s.Tanks,G0 s.G2.Tolerance,G0 s.G2.Trim,G0 s.G2.List_,G0 s.G2.Stability,E2 boxes,E1 l,E0 open_,G0 x.Ga,G0 x.Slot.G3,G0 x.Slot.Tier,U8 x.Slot.Half]) (Gh Gad O O O) O (JLh (.bfn 39 [.agg [E7 s.Columns,E6 s.Covers,G0 s.Light.Kilos,G0 s.Light.X,G0 s.Light.Y,G0 s.Light.Z,E3 s.Rows,E4 s.Frames,E5 s.Tanks,G0 s.G2.Tolerance,G0 s.G2.Trim,G0 s.G2.List_,G0 s.G2.Stability,E2 boxes,E1 l,E0 open_,G0 x.Ga,G0 x.Slot.G3,G0 x.Slot.Tier,U8 x.Slot.Half]]) (Gd9 (cs:=[.agg [E7 s.Columns,E6 s.Covers,G0 s.Light.Kilos,G0 s.Light.X,G0 s.Light.Y,G0 s.Light.Z,E3 s.Rows,E4 s.Frames,E5 s.Tanks,G0 s.G2.Tolerance,G0 s.G2.Trim,G0 s.G2.List_,G0 s.G2.Stability,E2 boxes,E1 l,E0 open_,G0 x.Ga,G0 x.Slot.G3,G0 x.Slot.Tier,U8 x.Slot.Half]]) O O) O (JLh (.agg [E7 s.Columns,E6 s.Covers,G0 s.Light.Kilos,G0 s.Light.X,G0 s.Light.Y,G0 s.Light.Z,E3 s.Rows,E4 s.Frames,E5 s.Tanks,G0 s.G2.Tolerance,G0 s.G2.Trim,G0 s.G2.List_,G0 s.G2.Stability,E2 boxes,E1 l,E0 open_,G0 x.Ga,G0 x.Slot.G3,G0 x.Slot.Tier,U8 x.Slot.Half]) (Gh Gad O O O) O (JLh (.bfn 40 [.agg [E7 s.Columns,E6 s.Covers,G0 s.Light.Kilos,G0 s.Light.X,G0 s.Light.Y,G0 s.Light.Z,E3 s.Rows,E4 s.Frames,E5 s.Tanks,G0 s.G2.Tolerance,G0 s.G2.Trim,G0 s.G2.List_,G0 s.G2.Stability,E2 boxes,E1 l,E0 open_,G0 x.Ga,G0 x.Slot.G3,G0 x.Slot.Tier,U8 x.Slot.Half]]) (Gd9 (cs:=[.agg [E7 s.Columns,E6 s.Covers,G0 s.Light.Kilos,G0 s.Light.X,G0 s.Light.Y,G0 s.Light.Z,E3 s.Rows,E4 s.Frames,E5 s.Tanks,G0 s.G2.Tolerance,G0 s.G2.Trim,G0 s.G2.List_,G0 s.G2.Stability,E2 boxes,E1 l,E0 open_,G0 x.Ga,G0 x.Slot.G3,G0 x.Slot.Tier,U8 x.Slot.Half]]) O O) O (JLh (.agg [E7 s.Columns,E6 s.Covers,G0 s.Light.Kilos,G0 s.Light.X,G0 s.Light.Y,G0 s.Light.Z,E3 s.Rows,E4 s.Frames,E5 s.Tanks,G0 s.G2.Tolerance,G0 s.G2.Trim,G0 s.G2.List_,G0 s.G2.Stability,E2 boxes,E1 l,E0 open_,G0 x.Ga,G0 x.Slot.G3,G0 x.Slot.Tier,U8 x.Slot.Half]) (Gh Gad O O O) O (JLh (.bfn 41 [.agg [E7 s.Columns,E6 s.Covers,G0 s.Light.Kilos,G0 s.Light.X,G0 s.Light.Y,G0 s.Light.Z,E3 s.Rows,E4 s.Frames,E5 s.Tanks,G0 s.G2.Tolerance,G0 s.G2.Trim,G0 s.G2.List_,G0 s.G2.Stability,E2 boxes,E1 l,E0 open_,G0 x.Ga,G0 x.Slot.G3,G0 x.Slot.Tier,U8 x.Slot.Half]]) (Gd9 (cs:=[.agg [E7 s.Columns,E6 s.Covers,G0 s.Light.Kilos,G0 s.Light.X,G0 s.Light.Y,G0 s.Light.Z,E3 s.Rows,E4 s.Frames,E5 s.Tanks,G0 s.G2.Tolerance,G0 s.G2.Trim,G0 s.G2.List_,G0 s.G2.Stability,E2 boxes,E1 l,E0 open_,G0 x.Ga,G0 x.Slot.G3,G0 x.Slot.Tier,U8 x.Slot.Half]]) O O) O (JLh (.agg [E7 s.Columns,E6 s.Covers,G0 s.Light.Kilos,G0 s.Light.X,G0 s.Light.Y,G0 s.Light.Z,E3 s.Rows,E4 s.Frames,E5 s.Tanks,G0 s.G2.Tolerance,G0 s.G2.Trim,G0 s.G2.List_,G0 s.G2.Stability,E2 boxes,E1 l,E0 open_,G0 x.Ga,G0 x.Slot.G3,G0 x.Slot.Tier,U8 x.Slot.Half]) (Gh Gad O O O) O (JLh (.bfn 42 [.agg [E7 s.Columns,E6 s.Covers,G0 s.Light.Kilos,G0 s.Light.X,G0 s.Light.Y,G0 s.Light.Z,E3 s.Rows,E4 s.Frames,E5 s.Tanks,G0 s.G2.Tolerance,G0 s.G2.Trim,G0 s.G2.List_,G0 s.G2.Stability,E2 boxes,E1 l,E0 open_,G0 x.Ga,G0 x.Slot.G3,G0 x.Slot.Tier,U8 x.Slot.Half]]) (Gd9 (cs:=[.agg [E7 s.Columns,E6 s.Covers,G0 s.Light.Kilos,G0 s.Light.X,G0 s.Light.Y,G0 s.Light.Z,E3 s.Rows,E4 s.Frames,E5 s.Tanks,G0 s.G2.Tolerance,G0 s.G2.Trim,G0 s.G2.List_,G0 s.G2.Stability,E2 boxes,E1 l,E0 open_,G0 x.Ga,G0 x.Slot.G3,G0 x.Slot.Tier,U8 x.Slot.Half]]) O O) O (JLh (.agg [.bfn 39 [.agg [E7 s.Columns,E6 s.Covers,G0 s.Light.Kilos,G0 s.Light.X,G0 s.Light.Y,G0 s.Light.Z,E3 s.Rows,E4 s.Frames,E5 s.Tanks,G0 s.G2.Tolerance,G0 s.G2.Trim,G0 s.G2.List_,G0 s.G2.Stability,E2 boxes,E1 l,E0 open_,G0 x.Ga,G0 x.Slot.G3,G0 x.Slot.Tier,U8 x.Slot.Half]],.bfn 40 [.agg [E7 s.Columns,E6 s.Covers,G0 s.Light.Kilos,G0 s.Light.X,G0 s.Light.Y,G0 s.Light.Z,E3 s.Rows,E4 s.Frames,E5 s.Tanks,G0 s.G2.Tolerance,G0 s.G2.Trim,G0 s.G2.List_,G0 s.G2.Stability,E2 boxes,E1 l,E0 open_,G0 x.Ga,G0 x.Slot.G3,G0 x.Slot.Tier,U8 x.Slot.Half]],.bfn 41 [.agg [E7 s.Columns,E6 s.Covers,G0 s.Light.Kilos,G0 s.Light.X,G0 s.Light.Y,G0 s.Light.Z,E3 s.Rows,E4 s.Frames,E5 s.Tanks,G0 s.G2.Tolerance,G0 s.G2.Trim,G0 s.G2.List_,G0 s.G2.Stability,E2 boxes,E1 l,E0 open_,G0 x.Ga,G0 x.Slot.G3,G0 x.Slot.Tier,U8 x.Slot.Half]],.bfn 42 [.agg [E7 s.Columns,E6 s.Covers,G0 s.Light.Kilos,G0 s.Light.X,G0 s.Light.Y,G0 s.Light.Z,E3 s.Rows,E4 s.Frames,E5 s.Tanks,G0 s.G2.Tolerance,G0 s.G2.Trim,G0 s.G2.List_,G0 s.G2.Stability,E2 boxes,E1 l,E0 open_,G0 x.Ga,G0 x.Slot.G3,G0 x.Slot.Tier,U8 x.Slot.Half]]]) (H78 (cs:=[.bfn 39 [.agg [E7 s.Columns,E6 s.Covers,G0 s.Light.Kilos,G0 s.Light.X,G0 s.Light.Y,G0 s.Light.Z,E3 s.Rows,E4 s.Frames,E5 s.Tanks,G0 s.G2.Tolerance,G0 s.G2.Trim,G0 s.G2.List_,G0 s.G2.Stability,E2 boxes,E1 l,E0 open_,G0 x.Ga,G0 x.Slot.G3,G0 x.Slot.Tier,U8 x.Slot.Half]],.bfn 40 [.agg [E7 s.Columns,E6 s.Covers,G0 s.Light.Kilos,G0 s.Light.X,G0 s.Light.Y,G0 s.Light.Z,E3 s.Rows,E4 s.Frames,E5 s.Tanks,G0 s.G2.Tolerance,G0 s.G2.Trim,G0 s.G2.List_,G0 s.G2.Stability,E2 boxes,E1 l,E0 open_,G0 x.Ga,G0 x.Slot.G3,G0 x.Slot.Tier,U8 x.Slot.Half]],.bfn 41 [.agg [E7 s.Columns,E6 s.Covers,G0 s.Light.Kilos,G0 s.Light.X,G0 s.Light.Y,G0 s.Light.Z,E3 s.Rows,E4 s.Frames,E5 s.Tanks,G0 s.G2.Tolerance,G0 s.G2.Trim,G0 s.G2.List_,G0 s.G2.Stability,E2 boxes,E1 l,E0 open_,G0 x.Ga,G0 x.Slot.G3,G0 x.Slot.Tier,U8 x.Slot.Half]],.bfn 42 [.agg [E7 s.Columns,E6 s.Covers,G0 s.Light.Kilos,G0 s.Light.X,G0 s.Light.Y,G0 s.Light.Z,E3 s.Rows,E4 s.Frames,E5 s.Tanks,G0 s.G2.Tolerance,G0 s.G2.Trim,G0 s.G2.List_,G0 s.G2.Stability,E2 boxes,E1 l,E0 open_,G0 x.Ga,G0 x.Slot.G3,G0 x.Slot.Tier,U8 x.Slot.Half]]]) [.nilFunc,.nilFunc,.nilFunc,.nilFunc] tf_arr_99 J94 O O) O (Rc (G0 0) O (G7 (hK19 ?_))))))))))))
     refine Gx ?_
     obtain⟨hx60,h⟩:=Ji h
     obtain⟨b60,kx60,hb60,hkx60,h⟩:=upto_in h
     refine Hy (fun i60 (s60:Unit)=>upto b60 kx60 ((4:Int).toNat - i60) i60 s60=some r) (fun i60 s60=>[(14,.dptr [E7 s.Columns,E6 s.Covers,G0 s.Light.Kilos,G0 s.Light.X,G0 s.Light.Y,G0 s.Light.Z,E3 s.Rows,E4 s.Frames,E5 s.Tanks,G0 s.G2.Tolerance,G0 s.G2.Trim,G0 s.G2.List_,G0 s.G2.Stability,E2 boxes,E1 l,E0 open_,G0 x.Ga,G0 x.Slot.G3,G0 x.Slot.Tier,U8 x.Slot.Half]),(71,.agg [.bfn 39 [.agg [E7 s.Columns,E6 s.Covers,G0 s.Light.Kilos,G0 s.Light.X,G0 s.Light.Y,G0 s.Light.Z,E3 s.Rows,E4 s.Frames,E5 s.Tanks,G0 s.G2.Tolerance,G0 s.G2.Trim,G0 s.G2.List_,G0 s.G2.Stability,E2 boxes,E1 l,E0 open_,G0 x.Ga,G0 x.Slot.G3,G0 x.Slot.Tier,U8 x.Slot.Half]],.bfn 40 [.agg [E7 s.Columns,E6 s.Covers,G0 s.Light.Kilos,G0 s.Light.X,G0 s.Light.Y,G0 s.Light.Z,E3 s.Rows,E4 s.Frames,E5 s.Tanks,G0 s.G2.Tolerance,G0 s.G2.Trim,G0 s.G2.List_,G0 s.G2.Stability,E2 boxes,E1 l,E0 open_,G0 x.Ga,G0 x.Slot.G3,G0 x.Slot.Tier,U8 x.Slot.Half]],.bfn 41 [.agg [E7 s.Columns,E6 s.Covers,G0 s.Light.Kilos,G0 s.Light.X,G0 s.Light.Y,G0 s.Light.Z,E3 s.Rows,E4 s.Frames,E5 s.Tanks,G0 s.G2.Tolerance,G0 s.G2.Trim,G0 s.G2.List_,G0 s.G2.Stability,E2 boxes,E1 l,E0 open_,G0 x.Ga,G0 x.Slot.G3,G0 x.Slot.Tier,U8 x.Slot.Half]],.bfn 42 [.agg [E7 s.Columns,E6 s.Covers,G0 s.Light.Kilos,G0 s.Light.X,G0 s.Light.Y,G0 s.Light.Z,E3 s.Rows,E4 s.Frames,E5 s.Tanks,G0 s.G2.Tolerance,G0 s.G2.Trim,G0 s.G2.List_,G0 s.G2.Stability,E2 boxes,E1 l,E0 open_,G0 x.Ga,G0 x.Slot.G3,G0 x.Slot.Tier,U8 x.Slot.Half]]]),(72,Ej i60)]) (fun i60 s60=>[]) (fun i60=>(4:Int).toNat - i60) 0 () h ⟨⟨.same O,.same O,.same O,G⟩,G,O⟩ ?_
     clear h
     intro i60 s60 hi60 K60 e60
     refine Jr fun hK61=>(JLh (BL (decide ((i60:Int) < 4))) (Jp O O O) O (G7 (hK61 (Js fun hK62=>Gp O (fun hb=>?_) (fun hb=>?_)))))
     ·
      have hk60:=J36 hb
      obtain⟨nx60,hn60,h⟩:=Hfa hi60 hk60
      replace h:=app3 hb60 h
      refine Gr (hK62 ?_)
      obtain⟨kj63,hkj63,h⟩:=Yf h
      refine R4 (fun j63:Unit=>kj63 j63=some r) (fun j63=>[(14,.dptr [E7 s.Columns,E6 s.Covers,G0 s.Light.Kilos,G0 s.Light.X,G0 s.Light.Y,G0 s.Light.Z,E3 s.Rows,E4 s.Frames,E5 s.Tanks,G0 s.G2.Tolerance,G0 s.G2.Trim,G0 s.G2.List_,G0 s.G2.Stability,E2 boxes,E1 l,E0 open_,G0 x.Ga,G0 x.Slot.G3,G0 x.Slot.Tier,U8 x.Slot.Half]),(71,.agg [.bfn 39 [.agg [E7 s.Columns,E6 s.Covers,G0 s.Light.Kilos,G0 s.Light.X,G0 s.Light.Y,G0 s.Light.Z,E3 s.Rows,E4 s.Frames,E5 s.Tanks,G0 s.G2.Tolerance,G0 s.G2.Trim,G0 s.G2.List_,G0 s.G2.Stability,E2 boxes,E1 l,E0 open_,G0 x.Ga,G0 x.Slot.G3,G0 x.Slot.Tier,U8 x.Slot.Half]],.bfn 40 [.agg [E7 s.Columns,E6 s.Covers,G0 s.Light.Kilos,G0 s.Light.X,G0 s.Light.Y,G0 s.Light.Z,E3 s.Rows,E4 s.Frames,E5 s.Tanks,G0 s.G2.Tolerance,G0 s.G2.Trim,G0 s.G2.List_,G0 s.G2.Stability,E2 boxes,E1 l,E0 open_,G0 x.Ga,G0 x.Slot.G3,G0 x.Slot.Tier,U8 x.Slot.Half]],.bfn 41 [.agg [E7 s.Columns,E6 s.Covers,G0 s.Light.Kilos,G0 s.Light.X,G0 s.Light.Y,G0 s.Light.Z,E3 s.Rows,E4 s.Frames,E5 s.Tanks,G0 s.G2.Tolerance,G0 s.G2.Trim,G0 s.G2.List_,G0 s.G2.Stability,E2 boxes,E1 l,E0 open_,G0 x.Ga,G0 x.Slot.G3,G0 x.Slot.Tier,U8 x.Slot.Half]],.bfn 42 [.agg [E7 s.Columns,E6 s.Covers,G0 s.Light.Kilos,G0 s.Light.X,G0 s.Light.Y,G0 s.Light.Z,E3 s.Rows,E4 s.Frames,E5 s.Tanks,G0 s.G2.Tolerance,G0 s.G2.Trim,G0 s.G2.List_,G0 s.G2.Stability,E2 boxes,E1 l,E0 open_,G0 x.Ga,G0 x.Slot.G3,G0 x.Slot.Tier,U8 x.Slot.Half]]]),(72,Ej i60)]) (fun j63=>[]) (fun Kj63 ej63=>?_) ?_
      ·
       refine Gx (Jr fun hK64=>(Rc (Ej i60) O ((Decidable.em ((i60:Int)=0)).elim (fun hq65_0=>?_) (fun hq65_0=>?_))))
       ·
        replace h:=H3 (decide_eq_true hq65_0) h
        refine JLh (.bfn 39 [.agg [E7 s.Columns,E6 s.Covers,G0 s.Light.Kilos,G0 s.Light.X,G0 s.Light.Y,G0 s.Light.Z,E3 s.Rows,E4 s.Frames,E5 s.Tanks,G0 s.G2.Tolerance,G0 s.G2.Trim,G0 s.G2.List_,G0 s.G2.Stability,E2 boxes,E1 l,E0 open_,G0 x.Ga,G0 x.Slot.G3,G0 x.Slot.Tier,U8 x.Slot.Half]]) (H4c (j:=0) H40 O O O hq65_0 O O) O (Rc (Ej i60) O (Rc (.bfn 39 [.agg [E7 s.Columns,E6 s.Covers,G0 s.Light.Kilos,G0 s.Light.X,G0 s.Light.Y,G0 s.Light.Z,E3 s.Rows,E4 s.Frames,E5 s.Tanks,G0 s.G2.Tolerance,G0 s.G2.Trim,G0 s.G2.List_,G0 s.G2.Stability,E2 boxes,E1 l,E0 open_,G0 x.Ga,G0 x.Slot.G3,G0 x.Slot.Tier,U8 x.Slot.Half]]) O (G7 (hK64 ?_))))
        refine Jr fun hK66=>(Rc (.bfn 39 [.agg [E7 s.Columns,E6 s.Covers,G0 s.Light.Kilos,G0 s.Light.X,G0 s.Light.Y,G0 s.Light.Z,E3 s.Rows,E4 s.Frames,E5 s.Tanks,G0 s.G2.Tolerance,G0 s.G2.Trim,G0 s.G2.List_,G0 s.G2.Stability,E2 boxes,E1 l,E0 open_,G0 x.Ga,G0 x.Slot.G3,G0 x.Slot.Tier,U8 x.Slot.Half]]) O ?_)
        obtain⟨r67,hr67,h⟩:=Gf h
        refine JLh (BL r67) (H4d (args:=[]) (firsts:=[.agg [E7 s.Columns,E6 s.Covers,G0 s.Light.Kilos,G0 s.Light.X,G0 s.Light.Y,G0 s.Light.Z,E3 s.Rows,E4 s.Frames,E5 s.Tanks,G0 s.G2.Tolerance,G0 s.G2.Trim,G0 s.G2.List_,G0 s.G2.Stability,E2 boxes,E1 l,E0 open_,G0 x.Ga,G0 x.Slot.G3,G0 x.Slot.Tier,U8 x.Slot.Half]]) O O (H1e (Hd.mk s boxes l open_ x) r67 hr67) Jb8 G O) O (G7 (hK66 (JCc O h (fun h hb=>?_) (fun h hb=>?_))))
        ·
         refine Jr fun hK68=>(Rc (Ej i60) O ?_)
         obtain⟨v69,hv69,h⟩:=Jb h
         refine JLh (G0 v69) (Hv hv69 O O O) O (JLh (E1 ([]:List Stowed)) (Hi 4 O O) O (Rc (G0 v69) O (G7 (hK68 (Gv (⟨[E1 ([]:List Stowed),G0 v69],[],G,O,⟨⟨_,O,.conv (.same O)⟩,⟨_,O,.conv (.same O)⟩,G⟩,O,congrArg (fun r:(List Stowed)×Int=>(.tup [E1 r.1,G0 r.2]:AV)) (Option.some.inj h)⟩))))))
        ·
         refine Gr (ej63 _ _ () h ⟨⟨.same O,.same O,.same O,G⟩,G,O⟩)
       ·
        replace h:=Hk (decide_eq_false hq65_0) h
        refine(Decidable.em ((i60:Int)=1)).elim (fun hq65_1=>?_) (fun hq65_1=>?_)
        ·
         replace h:=H3 (decide_eq_true hq65_1) h
         refine JLh (.bfn 40 [.agg [E7 s.Columns,E6 s.Covers,G0 s.Light.Kilos,G0 s.Light.X,G0 s.Light.Y,G0 s.Light.Z,E3 s.Rows,E4 s.Frames,E5 s.Tanks,G0 s.G2.Tolerance,G0 s.G2.Trim,G0 s.G2.List_,G0 s.G2.Stability,E2 boxes,E1 l,E0 open_,G0 x.Ga,G0 x.Slot.G3,G0 x.Slot.Tier,U8 x.Slot.Half]]) (H4c (j:=1) H40 O O O hq65_1 O O) O (Rc (Ej i60) O (Rc (.bfn 40 [.agg [E7 s.Columns,E6 s.Covers,G0 s.Light.Kilos,G0 s.Light.X,G0 s.Light.Y,G0 s.Light.Z,E3 s.Rows,E4 s.Frames,E5 s.Tanks,G0 s.G2.Tolerance,G0 s.G2.Trim,G0 s.G2.List_,G0 s.G2.Stability,E2 boxes,E1 l,E0 open_,G0 x.Ga,G0 x.Slot.G3,G0 x.Slot.Tier,U8 x.Slot.Half]]) O (G7 (hK64 ?_))))
         refine Jr fun hK70=>(Rc (.bfn 40 [.agg [E7 s.Columns,E6 s.Covers,G0 s.Light.Kilos,G0 s.Light.X,G0 s.Light.Y,G0 s.Light.Z,E3 s.Rows,E4 s.Frames,E5 s.Tanks,G0 s.G2.Tolerance,G0 s.G2.Trim,G0 s.G2.List_,G0 s.G2.Stability,E2 boxes,E1 l,E0 open_,G0 x.Ga,G0 x.Slot.G3,G0 x.Slot.Tier,U8 x.Slot.Half]]) O ?_)
         obtain⟨r71,hr71,h⟩:=Gf h
         refine JLh (BL r71) (H4d (args:=[]) (firsts:=[.agg [E7 s.Columns,E6 s.Covers,G0 s.Light.Kilos,G0 s.Light.X,G0 s.Light.Y,G0 s.Light.Z,E3 s.Rows,E4 s.Frames,E5 s.Tanks,G0 s.G2.Tolerance,G0 s.G2.Trim,G0 s.G2.List_,G0 s.G2.Stability,E2 boxes,E1 l,E0 open_,G0 x.Ga,G0 x.Slot.G3,G0 x.Slot.Tier,U8 x.Slot.Half]]) O O (H38 (Hd.mk s boxes l open_ x) r71 hr71) Jb7 G O) O (G7 (hK70 (JCc O h (fun h hb=>?_) (fun h hb=>?_))))
         ·
          refine Jr fun hK72=>(Rc (Ej i60) O ?_)
          obtain⟨v73,hv73,h⟩:=Jb h
          refine JLh (G0 v73) (Hv hv73 O O O) O (JLh (E1 ([]:List Stowed)) (Hi 4 O O) O (Rc (G0 v73) O (G7 (hK72 (Gv (⟨[E1 ([]:List Stowed),G0 v73],[],G,O,⟨⟨_,O,.conv (.same O)⟩,⟨_,O,.conv (.same O)⟩,G⟩,O,congrArg (fun r:(List Stowed)×Int=>(.tup [E1 r.1,G0 r.2]:AV)) (Option.some.inj h)⟩))))))
         ·
          refine Gr (ej63 _ _ () h ⟨⟨.same O,.same O,.same O,G⟩,G,O⟩)
        ·
         replace h:=Hk (decide_eq_false hq65_1) h
         refine(Decidable.em ((i60:Int)=2)).elim (fun hq65_2=>?_) (fun hq65_2=>?_)
         ·
          replace h:=H3 (decide_eq_true hq65_2) h
          refine JLh (.bfn 41 [.agg [E7 s.Columns,E6 s.Covers,G0 s.Light.Kilos,G0 s.Light.X,G0 s.Light.Y,G0 s.Light.Z,E3 s.Rows,E4 s.Frames,E5 s.Tanks,G0 s.G2.Tolerance,G0 s.G2.Trim,G0 s.G2.List_,G0 s.G2.Stability,E2 boxes,E1 l,E0 open_,G0 x.Ga,G0 x.Slot.G3,G0 x.Slot.Tier,U8 x.Slot.Half]]) (H4c (j:=2) H40 O O O hq65_2 O O) O (Rc (Ej i60) O (Rc (.bfn 41 [.agg [E7 s.Columns,E6 s.Covers,G0 s.Light.Kilos,G0 s.Light.X,G0 s.Light.Y,G0 s.Light.Z,E3 s.Rows,E4 s.Frames,E5 s.Tanks,G0 s.G2.Tolerance,G0 s.G2.Trim,G0 s.G2.List_,G0 s.G2.Stability,E2 boxes,E1 l,E0 open_,G0 x.Ga,G0 x.Slot.G3,G0 x.Slot.Tier,U8 x.Slot.Half]]) O (G7 (hK64 ?_))))
          refine Jr fun hK74=>(Rc (.bfn 41 [.agg [E7 s.Columns,E6 s.Covers,G0 s.Light.Kilos,G0 s.Light.X,G0 s.Light.Y,G0 s.Light.Z,E3 s.Rows,E4 s.Frames,E5 s.Tanks,G0 s.G2.Tolerance,G0 s.G2.Trim,G0 s.G2.List_,G0 s.G2.Stability,E2 boxes,E1 l,E0 open_,G0 x.Ga,G0 x.Slot.G3,G0 x.Slot.Tier,U8 x.Slot.Half]]) O ?_)
          obtain⟨r75,hr75,h⟩:=Gf h
          refine JLh (BL r75) (H4d (args:=[]) (firsts:=[.agg [E7 s.Columns,E6 s.Covers,G0 s.Light.Kilos,G0 s.Light.X,G0 s.Light.Y,G0 s.Light.Z,E3 s.Rows,E4 s.Frames,E5 s.Tanks,G0 s.G2.Tolerance,G0 s.G2.Trim,G0 s.G2.List_,G0 s.G2.Stability,E2 boxes,E1 l,E0 open_,G0 x.Ga,G0 x.Slot.G3,G0 x.Slot.Tier,U8 x.Slot.Half]]) O O (H13 (Hd.mk s boxes l open_ x) r75 hr75) Jb6 G O) O (G7 (hK74 (JCc O h (fun h hb=>?_) (fun h hb=>?_))))
          ·
           refine Jr fun hK76=>(Rc (Ej i60) O ?_)
           obtain⟨v77,hv77,h⟩:=Jb h
           refine JLh (G0 v77) (Hv hv77 O O O) O (JLh (E1 ([]:List Stowed)) (Hi 4 O O) O (Rc (G0 v77) O (G7 (hK76 (Gv (⟨[E1 ([]:List Stowed),G0 v77],[],G,O,⟨⟨_,O,.conv (.same O)⟩,⟨_,O,.conv (.same O)⟩,G⟩,O,congrArg (fun r:(List Stowed)×Int=>(.tup [E1 r.1,G0 r.2]:AV)) (Option.some.inj h)⟩))))))
          ·
           refine Gr (ej63 _ _ () h ⟨⟨.same O,.same O,.same O,G⟩,G,O⟩)
         ·
          replace h:=Hk (decide_eq_false hq65_2) h
          refine(Decidable.em ((i60:Int)=3)).elim (fun hq65_3=>?_) (fun hq65_3=>?_)
          ·
           replace h:=H3 (decide_eq_true hq65_3) h
           refine JLh (.bfn 42 [.agg [E7 s.Columns,E6 s.Covers,G0 s.Light.Kilos,G0 s.Light.X,G0 s.Light.Y,G0 s.Light.Z,E3 s.Rows,E4 s.Frames,E5 s.Tanks,G0 s.G2.Tolerance,G0 s.G2.Trim,G0 s.G2.List_,G0 s.G2.Stability,E2 boxes,E1 l,E0 open_,G0 x.Ga,G0 x.Slot.G3,G0 x.Slot.Tier,U8 x.Slot.Half]]) (H4c (j:=3) H40 O O O hq65_3 O O) O (Rc (Ej i60) O (Rc (.bfn 42 [.agg [E7 s.Columns,E6 s.Covers,G0 s.Light.Kilos,G0 s.Light.X,G0 s.Light.Y,G0 s.Light.Z,E3 s.Rows,E4 s.Frames,E5 s.Tanks,G0 s.G2.Tolerance,G0 s.G2.Trim,G0 s.G2.List_,G0 s.G2.Stability,E2 boxes,E1 l,E0 open_,G0 x.Ga,G0 x.Slot.G3,G0 x.Slot.Tier,U8 x.Slot.Half]]) O (G7 (hK64 ?_))))
           refine Jr fun hK78=>(Rc (.bfn 42 [.agg [E7 s.Columns,E6 s.Covers,G0 s.Light.Kilos,G0 s.Light.X,G0 s.Light.Y,G0 s.Light.Z,E3 s.Rows,E4 s.Frames,E5 s.Tanks,G0 s.G2.Tolerance,G0 s.G2.Trim,G0 s.G2.List_,G0 s.G2.Stability,E2 boxes,E1 l,E0 open_,G0 x.Ga,G0 x.Slot.G3,G0 x.Slot.Tier,U8 x.Slot.Half]]) O ?_)
           obtain⟨r79,hr79,h⟩:=Gf h
           refine JLh (BL r79) (H4d (args:=[]) (firsts:=[.agg [E7 s.Columns,E6 s.Covers,G0 s.Light.Kilos,G0 s.Light.X,G0 s.Light.Y,G0 s.Light.Z,E3 s.Rows,E4 s.Frames,E5 s.Tanks,G0 s.G2.Tolerance,G0 s.G2.Trim,G0 s.G2.List_,G0 s.G2.Stability,E2 boxes,E1 l,E0 open_,G0 x.Ga,G0 x.Slot.G3,G0 x.Slot.Tier,U8 x.Slot.Half]]) O O (H1f F (Hd.mk s boxes l open_ x) r79 hr79) Jb5 G O) O (G7 (hK78 (JCc O h (fun h hb=>?_) (fun h hb=>?_))))
           ·
            refine Jr fun hK80=>(Rc (Ej i60) O ?_)
            obtain⟨v81,hv81,h⟩:=Jb h
            refine JLh (G0 v81) (Hv hv81 O O O) O (JLh (E1 ([]:List Stowed)) (Hi 4 O O) O (Rc (G0 v81) O (G7 (hK80 (Gv (⟨[E1 ([]:List Stowed),G0 v81],[],G,O,⟨⟨_,O,.conv (.same O)⟩,⟨_,O,.conv (.same O)⟩,G⟩,O,congrArg (fun r:(List Stowed)×Int=>(.tup [E1 r.1,G0 r.2]:AV)) (Option.some.inj h)⟩))))))
           ·
            refine Gr (ej63 _ _ () h ⟨⟨.same O,.same O,.same O,G⟩,G,O⟩)
          ·
           replace h:=Hk (decide_eq_false hq65_3) h
           cases h
      ·intro j63 h
       replace h:=app1 hkj63 h
       refine G4 (JLh (G0 ((i60+1:Nat):Int)) (Hv (Hr hk60 (Ha1 hx60)) O O O) O (Rc (G0 ((i60+1:Nat):Int)) O (G7 (e60 _ _ (i60+1) () (app1 hn60 h) (by omega) ⟨⟨.same rfl,.same rfl,.same rfl,G⟩,G,rfl⟩))))
     ·
      have h:=app1 hkx60 (Hfb hi60 (H09 hb))
      refine J5 (hK18 (Jr fun hK82=>(JLh (.agg [E7 s.Columns,E6 s.Covers,G0 s.Light.Kilos,G0 s.Light.X,G0 s.Light.Y,G0 s.Light.Z,E3 s.Rows,E4 s.Frames,E5 s.Tanks,G0 s.G2.Tolerance,G0 s.G2.Trim,G0 s.G2.List_,G0 s.G2.Stability,E2 boxes,E1 l,E0 open_,G0 x.Ga,G0 x.Slot.G3,G0 x.Slot.Tier,U8 x.Slot.Half]) (Gh Gad O O O) O ?_)))
      obtain⟨r83,hr83,h⟩:=Gf h
      refine JLh (E1 r83) (Gu O (G54 F (Hd.mk s boxes l open_ x) r83 hr83) J18 ⟨O,O,G⟩) O (Rc (E1 r83) O (Rc (G0 0) O (G7 (hK82 (Gv (⟨[E1 r83,G0 0],[],G,O,⟨⟨_,O,.conv (.same O)⟩,⟨_,O,.conv (.same O)⟩,G⟩,O,congrArg (fun r:(List Stowed)×Int=>(.tup [E1 r.1,G0 r.2]:AV)) (Option.some.inj h)⟩))))))

def J8 (a:List Int) (b:List Int):Option Bool:=
 bif decide ((a.length:Int)≠(b.length:Int)) then
 (some false)
 else
 (each (fun y24 i24 (s24:Unit) nx24=>
   Ym b (i24:Int) fun y29=>
   bif decide (y24≠y29) then
   (some false)
   else
   (nx24 ()))
  (fun(s24:Unit)=>
   some true) a 0 ())
theorem Qd (a:List Int) (b:List Int) (r:Bool) (h:J8 a b=some r):Pure Ek 12 [E0 a,E0 b] (·=BL r):=by
 unfold J8 at h
 refine H4 [.tmp 4] Tryz.func12 O O (Jr fun hK1=>(Rc (BL false) O (G7 (hK1 (Js fun hK2=>Jr fun hK3=>(Rc (E0 a) O (JLl Gq O O O fun hm7=>(Rc (E0 b) O (JLl Gq O O O fun hm9=>(JLh (BL (decide ((a.length:Int)≠(b.length:Int)))) (G36 O O O) O (G7 (hK3 (JCc O h (fun h hb=>?_) (fun h hb=>?_))))))))))))))
 ·
  refine Jr fun hK4=>(Rc (BL false) O (G7 (hK4 (Gv (fin1 BL h)))))
 ·
  refine Gr (hK2 (Js fun hK5=>Jr fun hK6=>(Rc (G0 0) O (G7 (hK6 (Gx ?_))))))
  obtain⟨b24,kx24,hb24,hkx24,h⟩:=Jf h
  refine Hy (fun i24 (s24:Unit)=>each b24 kx24 (List.drop i24 a) i24 s24=some r) (fun i24 s24=>[(0,E0 a),(1,E0 b),(5,Ej i24)]) (fun i24 s24=>[]) (fun i24=>a.length - i24) 0 () h ⟨⟨.same O,.same O,.same O,G⟩,G,O⟩ ?_
  clear h
  intro i24 s24 hi24 K24 e24
  refine Js fun hK25=>Jr fun hK26=>(Rc (Ej i24) O (Rc (E0 a) O (JLl Gq O O O fun hm13=>(JLh (BL (decide ((i24:Int) < (a.length:Int)))) (Jp O O O) O (G7 (hK26 (Gp O (fun hb=>?_) (fun hb=>?_))))))))
  ·
   have hk24:=Q7 hb
   obtain⟨y24,nx24,hy24,hn24,h⟩:=J0 hi24 hk24
   replace h:=Zi hb24 h
   refine Gr (hK25 (Js fun hK27=>Gx (Js fun hK28=>?_)))
   obtain⟨m30,y29,hm30,hy29,h⟩:=Rh h
   refine JC_d0 Jx (by kernel_rfl) (Dq (E0 a) (G5 O O) O (Dq (Ej i24) (G5 O O) O (Dq (.dptr [G0 y24]) (H9 (f:=G0) (xs:=a) (y:=y24) O O O Gq hy24 O) O (Dq (G0 y24) (Gi Gd O O O) O (Dq (E0 b) (G5 O O) O (Dq (Ej i24) (G5 O O) O (Dq (.dptr [G0 y29]) (H9 (f:=G0) (xs:=b) (y:=y29) O O O Gq hy29 hm30) O (Dq (G0 y29) (Gi Gd O O O) O (Dq (BL (decide (y24≠y29))) (G36 O O O) O (Dnil (hK28 (JCc O h (fun h hb=>?_) (fun h hb=>?_)))))))))))))
   ·
    refine Jr fun hK31=>(Rc (BL false) O (G7 (hK31 (Gv (fin1 BL h)))))
   ·
    refine Gr (hK27 (G4 (Rc (Ej i24) O (JLh (G0 ((i24+1:Nat):Int)) (Hv (Hr hk24 hm13) O O O) O (Rc (G0 ((i24+1:Nat):Int)) O (G7 (e24 _ _ (i24+1) () (app1 hn24 h) (by omega) ⟨⟨.same rfl,.same rfl,.same rfl,G⟩,G,rfl⟩)))))))
  ·
   have h:=app1 hkx24 (J1 hi24 (Hg hb))
   refine J5 (hK5 (Jr fun hK32=>(Rc (BL true) O (G7 (hK32 (Gv (fin1 BL h)))))))

def Rq (s:Gt) (boxes:List Ga) (l:List Stowed) (open_:List Int) (id_:Int):Option Int:=
 bnd (Qa s boxes l open_) fun r4=>
 bif (!r4) then
 (some 2)
 else
 (bnd (Zb l id_) fun r7=>
  bif decide (r7.2≠0) then
  (some r7.2)
  else
  (bif decide (0 < (r7.1.length:Int)) then
   (some 90)
   else
   (bnd (R7 l id_) fun r15=>
    Ym l r15 fun y16=>
    bnd (G2e s y16.Slot.G3) fun r18=>
    bnd (bif decide (0≤r18) then Qj open_ r18 else some default) fun r20=>
    bif ((decide (0≤r18))&&(!r20)) then
    (some 91)
    else
    (some 0))))
theorem Zk (s:Gt) (boxes:List Ga) (l:List Stowed) (open_:List Int) (id_:Int) (r:Int) (h:Rq s boxes l open_ id_=some r):Pure Ek 15 [.agg (Gt.cs s),E2 boxes,E1 l,E0 open_,G0 id_] (·=G0 r):=by
 unfold Rq at h
 refine H4 [.tmp 10] Tryz.func15 O O (Jr fun hK1=>(JLh (.ptr 1041 0) (Jz (cs:=(Gt.cs s)) 1041 O O O O O) O (Rc (G0 0) O (G7 (hK1 (Gs [(1,E2 boxes),(2,E1 l),(3,E0 open_),(4,G0 id_),(5,Ec s)] [] 1041 rfl rfl rfl G rfl (by repeat' (first | exact .ptr | constructor)) ?_))))))
 refine Js fun hK2=>Jr fun hK3=>(JLh (.agg (Gt.cs s)) (Gh H6 O O O) O (Rc (E2 boxes) O (Rc (E1 l) O (Rc (E0 open_) O ?_))))
 obtain⟨r4,hr4,h⟩:=Gf h
 refine JLh (BL r4) (Gu O (Zt s boxes l open_ r4 hr4) Gb1 ⟨O,O,O,O,O,O,O,O,G⟩) O (JLh (BL (!r4)) (Zd (b:=r4) O O) O (G7 (hK3 (JCc O h (fun h hb=>?_) (fun h hb=>?_)))))
 ·
  refine Jr fun hK5=>(Rc (G0 2) O (G7 (hK5 (Gv (fin1 G0 h)))))
 ·
  refine Gr (hK2 (Jr fun hK6=>(Rc (E1 l) O (Rc (G0 id_) O ?_))))
  obtain⟨r7,hr7,h⟩:=Gf h
  refine JLh (.tup [E0 r7.1,G0 r7.2]) (Gu O (Gc2 l id_ r7 hr7) H65 ⟨O,O,O,O,G⟩) O (Rc (.tup [E0 r7.1,G0 r7.2]) O (JLh (E0 r7.1) (H2 O O O) O (JLh (G0 r7.2) (H2 O O O) O (Rc (E0 r7.1) O (Rc (G0 r7.2) O (G7 (hK6 (Js fun hK8=>Gx (Jr fun hK9=>(Rc (G0 r7.2) O (JLh (BL (decide (r7.2≠0))) (G36 O O O) O (Rc (BL (decide (r7.2≠0))) O (G7 (hK9 (JCc O h (fun h hb=>?_) (fun h hb=>?_))))))))))))))))
  ·
   refine Jr fun hK10=>(Rc (G0 r7.2) O (Rc (G0 r7.2) O (G7 (hK10 (Gv (fin1 G0 h))))))
  ·
   refine Jr fun hK11=>(Rc (E0 r7.1) O (JLl Gq O O O fun hm32=>(JLh (BL (decide (0 < (r7.1.length:Int)))) (G99 O O O) O (Rc (BL (decide (0 < (r7.1.length:Int)))) O (G7 (hK11 (JCc O h (fun h hb=>?_) (fun h hb=>?_))))))))
   ·
    refine Jr fun hK12=>(Rc (G0 90) O (G7 (hK12 (Gv (fin1 G0 h)))))
   ·
    refine Gr (hK8 (Js fun hK13=>Js fun hK14=>?_))
    obtain⟨r15,hr15,h⟩:=Gf h
    obtain⟨m17,y16,hm17,hy16,h⟩:=Rh h
    obtain⟨r18,hr18,h⟩:=Gf h
    refine JC_d0 Jx (by kernel_rfl) (Dq (.agg (Gt.cs s)) (Gh H6 O O O) O (Dq (E1 l) (G5 O O) O (Dq (E1 l) (G5 O O) O (Dq (G0 id_) (G5 O O) O (Dq (G0 r15) (Gu (args:=[E1 l,G0 id_]) O (G0e l id_ r15 hr15) G6e ⟨O,O,O,O,G⟩) O (Dq (Ed y16) (H9 (f:=Stowed.av) (xs:=l) (y:=y16) O O O H0 hy16 hm17) O (Dq (.dptr ((Stowed.cs y16).drop 1)) (Gb J6 O O O) O (Dq (.dptr ((Stowed.cs y16).drop 1)) (Gb Jd O O O) O (Dq (G0 y16.Slot.G3) (Gi Gd O O O) O (Dq (G0 r18) (Gu (args:=[.agg (Gt.cs s),G0 y16.Slot.G3]) O (H39 s y16.Slot.G3 r18 hr18) J1d ⟨O,O,O,O,G⟩) O (Dq (G0 r18) (G8 O O) O (Dnil ?_))))))))))))
    refine hK14 (Jr fun hK19=>(Rc (G0 r18) O (JLh (BL (decide (0≤r18))) (G9a O O O) O (Rc (BL (decide (0≤r18))) O (JLo (E0 open_) [] O .sct G (fun hc=>G5 O O) O (JLo (G0 r18) [] O .sct G (fun hc=>G5 O O) O ?_))))))
    obtain⟨r20,hr20,h⟩:=Gf h
    refine JLo (BL r20) [47,48] O .sct ⟨Ua,Ua,G⟩ (fun hc=>Gu (args:=[E0 open_,G0 r18]) O (Zw open_ r18 r20 (H3 hc hr20)) H62 ⟨O,O,O,O,G⟩) O (JLo (BL (!r20)) [49] O .sct ⟨Ua,G⟩ (fun hc=>Zd (b:=r20) O O) O (JLh (BL ((decide (0≤r18))&&(!r20))) (Q6 O O O O) O (G7 (hK19 (JCc O h (fun h hb=>?_) (fun h hb=>?_))))))
    ·
     refine Jr fun hK21=>(Rc (G0 91) O (G7 (hK21 (Gv (fin1 G0 h)))))
    ·
     refine Gr (hK13 (Jr fun hK22=>(Rc (G0 0) O (G7 (hK22 (Gv (fin1 G0 h)))))))
end
end Go.Proofs.YtbljcmgjmieffaaGreat
