/-
 Models of functions of the program,and that they return what the models say.
-/
import Derived.Test.YtbljcmgjmieffaaGreatXB
set_option linter.unnecessarySimpa false
set_option maxRecDepth 100000
set_option linter.unusedVariables false
set_option linter.unusedSimpArgs false
namespace Go.Proofs.YtbljcmgjmieffaaGreat
open Go.RowKit
noncomputable section
structure Ga where
 G3:Int
 Kilos:Int
 Small:Bool
 High:Bool
 deriving DecidableEq,Inhabited
def Ga.cs (x:Ga):List AV:=[U8 x.G3,U8 x.Kilos,BL x.Small,BL x.High]
def Ga.av (x:Ga):AV:=.agg x.cs
abbrev Eg (x:Ga):AV:=.dptr (Ga.cs x)
abbrev Ea:=LS 4 Ga.av
structure He where
 s:Gr
 boxes:List Gb
 l:List Stowed
 open_:List Int
 x:Stowed
 deriving DecidableEq,Inhabited
def He.cs (x:He):List AV:=[E7 x.s.Columns,E3 x.s.Covers,G0 x.s.Light.Kilos,G0 x.s.Light.X,G0 x.s.Light.Y,G0 x.s.Light.Z,E4 x.s.Rows,E5 x.s.Frames,E6 x.s.Tanks,G0 x.s.G2.Tolerance,G0 x.s.G2.Trim,G0 x.s.G2.List_,G0 x.s.G2.Stability,E2 x.boxes,E1 x.l,E0 x.open_,G0 x.x.Gb,G0 x.x.Slot.G3,G0 x.x.Slot.Tier,U8 x.x.Slot.Half]
def He.av (x:He):AV:=.agg x.cs
abbrev Ef (x:He):AV:=.dptr (He.cs x)
namespace XPF
open XAF
open XCF
open XGF
open XBF
theorem J7e:Gaa Ek 58 4=true:=by kernel_rfl
theorem Gbe:Gaa Ek 98 20=true:=by kernel_rfl
theorem H54:arr1B Ek 99 4=true:=by kernel_rfl
theorem tf_arr_99:arrB Ek 99 42 1=true:=by kernel_rfl
theorem G18:Hf Ek 10=true:=by kernel_rfl
theorem G88:Hf Ek 12=true:=by kernel_rfl
theorem G87:Hf Ek 13=true:=by kernel_rfl
theorem G32:Hf Ek 15=true:=by kernel_rfl
theorem Zx:Hf Ek 16=true:=by kernel_rfl
theorem G17:Hf Ek 21=true:=by kernel_rfl
theorem J38:Hf Ek 23=true:=by kernel_rfl
theorem Jd8:Hf Ek 24=true:=by kernel_rfl
theorem J35:Hf Ek 32=true:=by kernel_rfl
theorem J34:Hf Ek 33=true:=by kernel_rfl
theorem Jd5:Hf Ek 34=true:=by kernel_rfl
theorem Jd3:Hf Ek 39=true:=by kernel_rfl
theorem Jd2:Hf Ek 40=true:=by kernel_rfl
theorem Jd1:Hf Ek 41=true:=by kernel_rfl
theorem Jd0:Hf Ek 42=true:=by kernel_rfl
theorem J32:Hf Ek 43=true:=by kernel_rfl
theorem Jcc:Hf Ek 51=true:=by kernel_rfl
theorem Jc9:Hf Ek 59=true:=by kernel_rfl
theorem J2a:Hf Ek 60=true:=by kernel_rfl
theorem Jc4:Hf Ek 69=true:=by kernel_rfl
theorem H53:Hf Ek 7=true:=by kernel_rfl
theorem Jc3:Hf Ek 70=true:=by kernel_rfl
theorem Jc2:Hf Ek 71=true:=by kernel_rfl
theorem Jbe:Hf Ek 79=true:=by kernel_rfl
theorem H52:Hf Ek 8=true:=by kernel_rfl
theorem G65:Hf Ek 9=true:=by kernel_rfl
theorem J25:Hf Ek 94=true:=by kernel_rfl
theorem Gc6:Y4 Ek 67 9 64=true:=by kernel_rfl
theorem Gf1:Ju Ek 58 0 0=true:=by kernel_rfl
theorem G53:Ju Ek 58 1 1=true:=by kernel_rfl
theorem Gf0:Ju Ek 58 2 2=true:=by kernel_rfl
theorem Gef:Ju Ek 58 3 3=true:=by kernel_rfl
theorem Gee:Ju Ek 98 0 0=true:=by kernel_rfl
theorem J7a:Ju Ek 98 1 13=true:=by kernel_rfl
theorem G52:Ju Ek 98 2 14=true:=by kernel_rfl
theorem J79:Ju Ek 98 3 15=true:=by kernel_rfl
theorem G23:Ju Ek 98 4 16=true:=by kernel_rfl
theorem J1b:Ha5 Ek 117 .u64=true:=by kernel_rfl
theorem J8a:placesOf Ek 36=some [(0,1),(1,1),(2,4),(6,1),(7,1),(8,1),(9,4)]:=by kernel_rfl
theorem Ri:placesOf Ek 47=some [(0,1),(1,3)]:=by kernel_rfl
theorem J87:placesOf Ek 98=some [(0,13),(13,1),(14,1),(15,1),(16,4)]:=by kernel_rfl
theorem J86:Rr Ek 38=true:=by kernel_rfl
theorem Hbc:Rn Ek 4 1=true:=by kernel_rfl
theorem Gbc:Rn Ek 5 1=true:=by kernel_rfl
theorem J18:Rn Ek 58 4=true:=by kernel_rfl
theorem Jb6:Rn Ek 76 1=true:=by kernel_rfl
theorem Jb2:Rn Ek 98 20=true:=by kernel_rfl
theorem Z3:sliceB Ek 24 58 4=true:=by kernel_rfl
theorem Y8:(Ek.info? 47).bind (fun i=>i.zero.map Value.cells)=some (List.toArray [.int .i64 0,.int .i64 0,.int .i64 0,.int .u8 0]):=by kernel_rfl
theorem Jb0:(Ek.info? 76).bind (fun i=>i.zero.map Value.cells)=some (List.toArray [.slice none 0 0]):=by kernel_rfl
theorem Jae:(Ek.info? 98).bind (fun i=>i.zero.map Value.cells)=some (List.toArray [.slice none 0 0,.slice none 0 0,.int .i64 0,.int .i64 0,.int .i64 0,.int .i64 0,.slice none 0 0,.slice none 0 0,.slice none 0 0,.int .i64 0,.int .i64 0,.int .i64 0,.int .i64 0,.slice none 0 0,.slice none 0 0,.slice none 0 0,.int .i64 0,.int .i64 0,.int .i64 0,.int .u8 0]):=by kernel_rfl
theorem Jad:(Ek.info? 99).bind (fun i=>i.zero.map Value.cells)=some (List.toArray [.nilFunc,.nilFunc,.nilFunc,.nilFunc]):=by kernel_rfl
theorem H2e:Qu Ek 58 4=true:=by kernel_rfl
theorem J90:Qu Ek 98 20=true:=by kernel_rfl
end XPF
open XAF
open XCF
open XGF
open XBF
open XPF

def G7e (s:Gr) (size:Int):Option Unit:=
 some ()
theorem J66 (s:Gr) (size:Int) (r:Unit) (h:G7e s size=some r):Pure Ek 51 [.agg (Gr.cs s),U8 size] (·=.fn 79 [.dptr (Gr.cs s),.dptr [U8 size]]):=by
 unfold G7e at h
 refine H7 [.tmp 4] Tryz.func51 O O (Jr fun hK1=>(JLh (.ptr 1102 0) (Q9 (cs:=(Gr.cs s)) 1102 O O O O O) O (JLh (.ptr 1103 0) (Q9 (cs:=[U8 size]) 1103 O O O O O) O (Rt (.sc .nilFunc) O (G7 (hK1 ?_))))))
 refine Gt [(2,Ec s),(3,.ptr 1103 0)] [(1103,.box 5 [U8 size])] 1102 rfl rfl rfl ⟨⟨_,rfl,.boxEq rfl rfl⟩,G⟩ rfl (by exact⟨.ptr,.conv (.same rfl),G⟩) (Gt [(2,Ec s),(3,.dptr [U8 size])] [] 1103 rfl rfl rfl G rfl (by exact⟨.conv (.same rfl),.ptr,G⟩) ?_)
 refine Jr fun hK2=>(JLh (.fn 79 [.dptr (Gr.cs s),.dptr [U8 size]]) (Zj (cs:=[.dptr (Gr.cs s),.dptr [U8 size]]) O O) O (Rt (.fn 79 [.dptr (Gr.cs s),.dptr [U8 size]]) O (G7 (hK2 ?_))))
 refine Gw (⟨[.fn 79 [.dptr (Gr.cs s),.dptr [U8 size]]],[],G,O,⟨⟨_,O,.conv (.same O)⟩,G⟩,O,congrArg (fun _:Unit=>(.fn 79 [.dptr (Gr.cs s),.dptr [U8 size]]:AV)) (Option.some.inj h)⟩)

def G37 (s:Gr) (size:Int):Option (List Slot):=
 bnd (G7e s size) fun r5=>
 bnd (G0a s size) fun ys8=>
 each (fun y8 i8 (s8:(List Slot)) nx8=>
  need (decide ((s8.length+[y8].length)*24≤140737488355328∧s8.length+[y8].length≤maxLen)) <|
  nx8 (s8++[y8]))
 (fun(s8:(List Slot))=>
  some s8) ys8 0 []
theorem Hb1 (s:Gr) (size:Int) (r:(List Slot)) (h:G37 s size=some r):Pure Ek 23 [.agg (Gr.cs s),U8 size] (·=E8 r):=by
 unfold G37 at h
 refine H7 [.tmp 4] Tryz.func23 O O (Jr fun hK1=>(JLh (.ptr 1062 0) (Q9 (cs:=(Gr.cs s)) 1062 O O O O O) O (JLh (E8 ([]:List Slot)) (Hk 3 O O) O (G7 (hK1 (Gt [(1,U8 size),(2,Ec s)] [] 1062 rfl rfl rfl G rfl (by exact⟨.conv (.same rfl),.ptr,G⟩) ?_))))))
 refine Jr fun hK2=>(JLh (.ptr 1063 0) (Gdb 1063 [.sc (.slice none 0 0)] [.slice none 0 0] Jb0 ⟨.inl O,G⟩ O O) O (J6d 1063 0 1065 45 3 O O O (cs':=[OW 1065 3 Slot.av ([]:List Slot)]) O (G7 (hK2 (Js fun hK3=>Jr fun hK4=>(JLh (.agg (Gr.cs s)) (Gh H3 O O O) O (Rt (U8 size) O ?_)))))))
 obtain⟨r5,hr5,h⟩:=Gf h
 refine JLh (.fn 79 [.dptr (Gr.cs s),.dptr [U8 size]]) (Gu O (J66 s size r5 hr5) Jcc ⟨O,O,O,O,G⟩) O (G7 (hK4 (H1 ?_)))
 obtain⟨ys8,hy_8,h⟩:=Gf h
 obtain⟨b8,kx8,hb8,hkx8,h⟩:=Jj h
 refine J8c (ps:=[10]) [(5,.ptr 1063 0),(9,.fn 79 [.dptr (Gr.cs s),.dptr [U8 size]])] (ys8.map (fun y:Slot=>[.agg [G0 y.G3,G0 y.Tier,U8 y.Half]])) (fun i8 (s8:(List Slot))=>each b8 kx8 (List.drop i8 ys8) i8 s8=some r) (fun s8=>[(1065,.spare 45 3 s8.length s8.length),(1063,.box 76 [OW 1065 3 Slot.av s8])]) [] rfl rfl rfl Jbe (Hd2.down s size ys8 hy_8) h ⟨⟨.same rfl,.same rfl,trivial⟩,⟨⟨_,rfl,.same⟩,⟨_,rfl,.boxL rfl ⟨.same rfl,trivial⟩⟩,trivial⟩,rfl⟩ rfl (fun us_ hus_=>by obtain⟨_,_,rfl⟩:=List.mem_map.1 hus_; rfl) (fun p_ hp_=>Nat.blt_eq.mp (by revert p_; decide)) (fun _=>⟨.same rfl,.same rfl,trivial⟩) (fun _=>rfl) ?_ ?_
 ·
  intro i8 us_ s8 hu_ hi8 lr_ K8 e8
  obtain⟨hk8,rfl⟩:=mapf_at hu_
  obtain⟨y8,nx8,hy8,hn8,h⟩:=J4 hi8 hk8
  replace h:=Zz hb8 h
  obtain⟨_,rfl⟩:=List.getElem?_eq_some_iff.1 hy8
  generalize ys8[i8]=y8 at h ⊢
  change JC _ _ _ _ [(10,.agg [G0 y8.G3,G0 y8.Tier,U8 y8.Half]),(5,.ptr 1063 0),(9,.fn 79 [.dptr (Gr.cs s),.dptr [U8 size]])] [(1065,.spare 45 3 s8.length s8.length),(1063,.box 76 [OW 1065 3 Slot.av s8])]
  refine G4 (JLh (.ptr 1064 0) (Ht 1064 3 G63 O O) O (Hu (u:=.junk) (Hj (u:=.agg [G0 y8.G3,G0 y8.Tier,U8 y8.Half]) (ds:=[G0 y8.G3,G0 y8.Tier,U8 y8.Half]) H0c O O O O O O O O) (G7 (Mid_freeze [(5,.ptr 1063 0),(6,.dptr [G0 y8.G3,G0 y8.Tier,U8 y8.Half])] [(1065,.spare 45 3 s8.length s8.length),(1063,.box 76 [OW 1065 3 Slot.av s8])] 1064 rfl rfl rfl ⟨⟨_,rfl,.same⟩,⟨_,rfl,.boxEq rfl rfl⟩,G⟩ rfl (by exact⟨.conv (.same rfl),.ptr,G⟩) (Mid_go (H1 (G4 (JLh (OW 1065 3 Slot.av s8) (Yi H0f O O O O) O (JLh (.agg [G0 y8.G3,G0 y8.Tier,U8 y8.Half]) (Gh Qb O O O) O (JLh (E8 [y8]) (H5 (xs:=[.agg [G0 y8.G3,G0 y8.Tier,U8 y8.Half]]) O ⟨O,O,G⟩ Rm G63 O O O O) O ?_))))))))))
  obtain⟨ha9,h⟩:=Ja h
  refine JLh (OW 1065 3 Slot.av (s8++[y8])) (Y2 (f:=Slot.av) (xs:=s8) (ys:=[y8]) O O O O Rm J23 ha9 (fun _=>O) (.inl O) O) O (Hu (u:=.junk) (Hj (u:=OW 1065 3 Slot.av (s8++[y8])) (ds:=[OW 1065 3 Slot.av (s8++[y8])]) Jb6 O O O O O O O O) (G7 (e8 _ _ (s8++[y8]) (app1 hn8 h) ⟨G,⟨⟨_,O,.same⟩,⟨_,O,.boxL O ⟨.same O,G⟩⟩,G⟩,O⟩)))
 ·
  intro s8 h
  rw [List.length_map] at h
  replace h:=app1 hkx8 (J5 h (Nat.lt_irrefl _))
  refine hK3 (Jr fun hK10=>(JLh (OW 1065 3 Slot.av s8) (Yi H0f O O O O) O (Rt (OW 1065 3 Slot.av s8) O (G7 (hK10 (Rj (l':=[(4,E8 s8)]) (L':=[(1063,.box 76 [E8 s8])]) ⟨⟨.list O,G⟩,⟨⟨_,O,.boxL O ⟨.list O,G⟩⟩,G⟩,O⟩ (Gt [(4,E8 s8)] [] 1063 rfl rfl rfl G rfl (by exact⟨.conv (.same rfl),G⟩) (Gw (fin1 (fun r:(List Slot)=>(E8 r:AV)) h)))))))))

def Hz (s:Gr) (l:List Ga) (most:Int):Option ((List Gb)×(List Stowed)):=
 bnd (Gfc (min (l.length:Int) most) l.length) fun m6=>
 each (fun y7 i7 (s7:(List Gb)×(List Stowed)) nx7=>
  jp (fun kj10=>
   G1c (5*((i7+1:Nat):Int)) fun v13=>
   G1c (y7.Kilos) fun v14=>
   G1c (100*v14) fun v15=>
   G1c (1000+v15) fun v16=>
   jp (fun kj17=>
    bif y7.Small then
    (kj17 (20,false))
    else
    (kj17 (40,y7.High))) fun(j17:Int×Bool)=>
   need (decide ((s7.1.length+[(Gb.mk v13 ByteArray.empty j17.1 j17.2 v16 0 1 0 false)].length)*64≤140737488355328∧s7.1.length+[(Gb.mk v13 ByteArray.empty j17.1 j17.2 v16 0 1 0 false)].length≤maxLen)) <|
   bnd (G37 s j17.1) fun r22=>
   each (fun y49 i49 (s49:(List Stowed)) nx49=>
    need (decide ((([]:List Stowed).length+s49.length)*32≤140737488355328∧([]:List Stowed).length+s49.length≤maxLen)) <|
    need (decide (((([]:List Stowed)++s49).length+[(Stowed.mk v13 y49)].length)*32≤140737488355328∧(([]:List Stowed)++s49).length+[(Stowed.mk v13 y49)].length≤maxLen)) <|
    G1c (y7.G3) fun v58=>
    bnd (Gcc v58 (s.Columns.length:Int)) fun v59=>
    bnd (bif decide (y49.G3=v59) then Q7 s (s7.1++[(Gb.mk v13 ByteArray.empty j17.1 j17.2 v16 0 1 0 false)]) ((([]:List Stowed)++s49)++[(Stowed.mk v13 y49)]) else some default) fun r60=>
    bif ((decide (y49.G3=v59))&&r60) then
    (kj10 ((s7.1++[(Gb.mk v13 ByteArray.empty j17.1 j17.2 v16 0 1 0 false)]),((([]:List Stowed)++s49)++[(Stowed.mk v13 y49)])))
    else
    (nx49 s49))
   (fun(s49:(List Stowed))=>
    kj10 ((s7.1++[(Gb.mk v13 ByteArray.empty j17.1 j17.2 v16 0 1 0 false)]),s49)) r22 0 s7.2) fun(j10:(List Gb)×(List Stowed))=>
  nx7 (j10.1,j10.2))
 (fun(s7:(List Gb)×(List Stowed))=>
  some (s7.1,s7.2)) (l.take m6) 0 ([],[])
def G01 :Option Gr:=
 some (Gr.mk ([(G3.mk 0 0 false 2 0 0 0 0 [] 0 0 0),(G3.mk 0 1 false 2 0 0 0 0 [] 0 0 0),(G3.mk 0 0 true 3 0 0 0 0 [] 0 0 0),(G3.mk 0 1 true 3 0 0 0 0 [] 0 0 0),(G3.mk 1 1 true 4 0 0 0 0 [] 0 0 0)]) ([(G9.mk 0 [0,1])]) (Light.mk 0 0 0 0) [] [] [] (G2.mk 0 0 0 0))
theorem Gd8  (r:Gr) (h:G01 =some r):Pure Ek 24 [] (·=.agg (Gr.cs r)):=by
 unfold G01 at h
 refine H7 [.cell 0 36] Tryz.func24 O O (Jr fun hK1=>(JLh (.ptr 1066 0) (Gdb 1066 [E7 ([]:List G3),E3 ([]:List G9),G0 0,G0 0,G0 0,G0 0,E4 ([]:List Row),E5 ([]:List Frame),E6 ([]:List Gp),G0 0,G0 0,G0 0,G0 0] [.slice none 0 0,.slice none 0 0,.int .i64 0,.int .i64 0,.int .i64 0,.int .i64 0,.slice none 0 0,.slice none 0 0,.slice none 0 0,.int .i64 0,.int .i64 0,.int .i64 0,.int .i64 0] Gc4 ⟨.inr ⟨_,O,O⟩,.inr ⟨_,O,O⟩,.inl O,.inl O,.inl O,.inl O,.inr ⟨_,O,O⟩,.inr ⟨_,O,O⟩,.inr ⟨_,O,O⟩,.inl O,.inl O,.inl O,.inl O,G⟩ O O) O (G7 (hK1 ?_))))
 refine Jr fun hK2=>(JLh (.agg [G0 0,G0 0,BL false,G0 2,G0 0,G0 0,G0 0,G0 0,E0 ([]:List Int),G0 0,G0 0,G0 0]) (Hg (cs:=[G0 0,G0 0,BL false,G0 2,G0 0,G0 0,G0 0,G0 0,E0 ([]:List Int),G0 0,G0 0,G0 0]) [(0,1),(1,1),(2,1),(3,1),(4,1),(5,1),(6,1),(7,1),(8,1),(9,1),(10,1),(11,1)] [G0 0,G0 0,BL false,G0 0,G0 0,G0 0,G0 0,G0 0,E0 ([]:List Int),G0 0,G0 0,G0 0] [.int .i64 0,.int .i64 0,.bool false,.int .i64 0,.int .i64 0,.int .i64 0,.int .i64 0,.int .i64 0,.slice none 0 0,.int .i64 0,.int .i64 0,.int .i64 0] G14 G5d ⟨.inl O,.inl O,.inl O,.inl O,.inl O,.inl O,.inl O,.inl O,.inr ⟨_,O,O⟩,.inl O,.inl O,.inl O,G⟩ O O) O (JLh (.agg [G0 0,G0 1,BL false,G0 2,G0 0,G0 0,G0 0,G0 0,E0 ([]:List Int),G0 0,G0 0,G0 0]) (Hg (cs:=[G0 0,G0 1,BL false,G0 2,G0 0,G0 0,G0 0,G0 0,E0 ([]:List Int),G0 0,G0 0,G0 0]) [(0,1),(1,1),(2,1),(3,1),(4,1),(5,1),(6,1),(7,1),(8,1),(9,1),(10,1),(11,1)] [G0 0,G0 0,BL false,G0 0,G0 0,G0 0,G0 0,G0 0,E0 ([]:List Int),G0 0,G0 0,G0 0] [.int .i64 0,.int .i64 0,.bool false,.int .i64 0,.int .i64 0,.int .i64 0,.int .i64 0,.int .i64 0,.slice none 0 0,.int .i64 0,.int .i64 0,.int .i64 0] G14 G5d ⟨.inl O,.inl O,.inl O,.inl O,.inl O,.inl O,.inl O,.inl O,.inr ⟨_,O,O⟩,.inl O,.inl O,.inl O,G⟩ O O) O (JLh (.agg [G0 0,G0 0,BL true,G0 3,G0 0,G0 0,G0 0,G0 0,E0 ([]:List Int),G0 0,G0 0,G0 0]) (Hg (cs:=[G0 0,G0 0,BL true,G0 3,G0 0,G0 0,G0 0,G0 0,E0 ([]:List Int),G0 0,G0 0,G0 0]) [(0,1),(1,1),(2,1),(3,1),(4,1),(5,1),(6,1),(7,1),(8,1),(9,1),(10,1),(11,1)] [G0 0,G0 0,BL false,G0 0,G0 0,G0 0,G0 0,G0 0,E0 ([]:List Int),G0 0,G0 0,G0 0] [.int .i64 0,.int .i64 0,.bool false,.int .i64 0,.int .i64 0,.int .i64 0,.int .i64 0,.int .i64 0,.slice none 0 0,.int .i64 0,.int .i64 0,.int .i64 0] G14 G5d ⟨.inl O,.inl O,.inl O,.inl O,.inl O,.inl O,.inl O,.inl O,.inr ⟨_,O,O⟩,.inl O,.inl O,.inl O,G⟩ O O) O (JLh (.agg [G0 0,G0 1,BL true,G0 3,G0 0,G0 0,G0 0,G0 0,E0 ([]:List Int),G0 0,G0 0,G0 0]) (Hg (cs:=[G0 0,G0 1,BL true,G0 3,G0 0,G0 0,G0 0,G0 0,E0 ([]:List Int),G0 0,G0 0,G0 0]) [(0,1),(1,1),(2,1),(3,1),(4,1),(5,1),(6,1),(7,1),(8,1),(9,1),(10,1),(11,1)] [G0 0,G0 0,BL false,G0 0,G0 0,G0 0,G0 0,G0 0,E0 ([]:List Int),G0 0,G0 0,G0 0] [.int .i64 0,.int .i64 0,.bool false,.int .i64 0,.int .i64 0,.int .i64 0,.int .i64 0,.int .i64 0,.slice none 0 0,.int .i64 0,.int .i64 0,.int .i64 0] G14 G5d ⟨.inl O,.inl O,.inl O,.inl O,.inl O,.inl O,.inl O,.inl O,.inr ⟨_,O,O⟩,.inl O,.inl O,.inl O,G⟩ O O) O (JLh (.agg [G0 1,G0 1,BL true,G0 4,G0 0,G0 0,G0 0,G0 0,E0 ([]:List Int),G0 0,G0 0,G0 0]) (Hg (cs:=[G0 1,G0 1,BL true,G0 4,G0 0,G0 0,G0 0,G0 0,E0 ([]:List Int),G0 0,G0 0,G0 0]) [(0,1),(1,1),(2,1),(3,1),(4,1),(5,1),(6,1),(7,1),(8,1),(9,1),(10,1),(11,1)] [G0 0,G0 0,BL false,G0 0,G0 0,G0 0,G0 0,G0 0,E0 ([]:List Int),G0 0,G0 0,G0 0] [.int .i64 0,.int .i64 0,.bool false,.int .i64 0,.int .i64 0,.int .i64 0,.int .i64 0,.int .i64 0,.slice none 0 0,.int .i64 0,.int .i64 0,.int .i64 0] G14 G5d ⟨.inl O,.inl O,.inl O,.inl O,.inl O,.inl O,.inl O,.inl O,.inr ⟨_,O,O⟩,.inl O,.inl O,.inl O,G⟩ O O) O (JLh (E7 ([(G3.mk 0 0 false 2 0 0 0 0 [] 0 0 0),(G3.mk 0 1 false 2 0 0 0 0 [] 0 0 0),(G3.mk 0 0 true 3 0 0 0 0 [] 0 0 0),(G3.mk 0 1 true 3 0 0 0 0 [] 0 0 0),(G3.mk 1 1 true 4 0 0 0 0 [] 0 0 0)])) (H5 (xs:=[.agg [G0 0,G0 0,BL false,G0 2,G0 0,G0 0,G0 0,G0 0,E0 ([]:List Int),G0 0,G0 0,G0 0],.agg [G0 0,G0 1,BL false,G0 2,G0 0,G0 0,G0 0,G0 0,E0 ([]:List Int),G0 0,G0 0,G0 0],.agg [G0 0,G0 0,BL true,G0 3,G0 0,G0 0,G0 0,G0 0,E0 ([]:List Int),G0 0,G0 0,G0 0],.agg [G0 0,G0 1,BL true,G0 3,G0 0,G0 0,G0 0,G0 0,E0 ([]:List Int),G0 0,G0 0,G0 0],.agg [G0 1,G0 1,BL true,G0 4,G0 0,G0 0,G0 0,G0 0,E0 ([]:List Int),G0 0,G0 0,G0 0]]) O ⟨O,O,O,O,O,O,O,O,O,O,G⟩ Hs Z2 O O O O) O (JLh (E0 [0,1]) (H5 (xs:=[G0 0,G0 1]) O ⟨O,O,O,O,G⟩ Gq Jm O O O O) O (JLh (.agg [G0 0,E0 [0,1]]) (Hg (cs:=[G0 0,E0 [0,1]]) [(0,1),(1,1)] [G0 0,E0 ([]:List Int)] [.int .i64 0,.slice none 0 0] H10 H74 ⟨.inl O,.inr ⟨_,O,O⟩,G⟩ O O) O (JLh (E3 ([(G9.mk 0 [0,1])])) (H5 (xs:=[.agg [G0 0,E0 [0,1]]]) O ⟨O,O,G⟩ J7 G9a O O O O) O (JLh (.agg [E7 ([(G3.mk 0 0 false 2 0 0 0 0 [] 0 0 0),(G3.mk 0 1 false 2 0 0 0 0 [] 0 0 0),(G3.mk 0 0 true 3 0 0 0 0 [] 0 0 0),(G3.mk 0 1 true 3 0 0 0 0 [] 0 0 0),(G3.mk 1 1 true 4 0 0 0 0 [] 0 0 0)]),E3 ([(G9.mk 0 [0,1])]),G0 0,G0 0,G0 0,G0 0,E4 ([]:List Row),E5 ([]:List Frame),E6 ([]:List Gp),G0 0,G0 0,G0 0,G0 0]) (Hg (cs:=[E7 ([(G3.mk 0 0 false 2 0 0 0 0 [] 0 0 0),(G3.mk 0 1 false 2 0 0 0 0 [] 0 0 0),(G3.mk 0 0 true 3 0 0 0 0 [] 0 0 0),(G3.mk 0 1 true 3 0 0 0 0 [] 0 0 0),(G3.mk 1 1 true 4 0 0 0 0 [] 0 0 0)]),E3 ([(G9.mk 0 [0,1])]),G0 0,G0 0,G0 0,G0 0,E4 ([]:List Row),E5 ([]:List Frame),E6 ([]:List Gp),G0 0,G0 0,G0 0,G0 0]) [(0,1),(1,1),(2,4),(6,1),(7,1),(8,1),(9,4)] [E7 ([]:List G3),E3 ([]:List G9),G0 0,G0 0,G0 0,G0 0,E4 ([]:List Row),E5 ([]:List Frame),E6 ([]:List Gp),G0 0,G0 0,G0 0,G0 0] [.slice none 0 0,.slice none 0 0,.int .i64 0,.int .i64 0,.int .i64 0,.int .i64 0,.slice none 0 0,.slice none 0 0,.slice none 0 0,.int .i64 0,.int .i64 0,.int .i64 0,.int .i64 0] J8a Gc4 ⟨.inr ⟨_,O,O⟩,.inr ⟨_,O,O⟩,.inl O,.inl O,.inl O,.inl O,.inr ⟨_,O,O⟩,.inr ⟨_,O,O⟩,.inr ⟨_,O,O⟩,.inl O,.inl O,.inl O,.inl O,G⟩ O O) O (Hu (u:=.junk) (Hj (u:=.agg [E7 ([(G3.mk 0 0 false 2 0 0 0 0 [] 0 0 0),(G3.mk 0 1 false 2 0 0 0 0 [] 0 0 0),(G3.mk 0 0 true 3 0 0 0 0 [] 0 0 0),(G3.mk 0 1 true 3 0 0 0 0 [] 0 0 0),(G3.mk 1 1 true 4 0 0 0 0 [] 0 0 0)]),E3 ([(G9.mk 0 [0,1])]),G0 0,G0 0,G0 0,G0 0,E4 ([]:List Row),E5 ([]:List Frame),E6 ([]:List Gp),G0 0,G0 0,G0 0,G0 0]) (ds:=[E7 ([(G3.mk 0 0 false 2 0 0 0 0 [] 0 0 0),(G3.mk 0 1 false 2 0 0 0 0 [] 0 0 0),(G3.mk 0 0 true 3 0 0 0 0 [] 0 0 0),(G3.mk 0 1 true 3 0 0 0 0 [] 0 0 0),(G3.mk 1 1 true 4 0 0 0 0 [] 0 0 0)]),E3 ([(G9.mk 0 [0,1])]),G0 0,G0 0,G0 0,G0 0,E4 ([]:List Row),E5 ([]:List Frame),E6 ([]:List Gp),G0 0,G0 0,G0 0,G0 0]) G13 O O O O O O O O) (G7 (hK2 ?_)))))))))))))
 refine Gw (⟨[.agg [E7 ([(G3.mk 0 0 false 2 0 0 0 0 [] 0 0 0),(G3.mk 0 1 false 2 0 0 0 0 [] 0 0 0),(G3.mk 0 0 true 3 0 0 0 0 [] 0 0 0),(G3.mk 0 1 true 3 0 0 0 0 [] 0 0 0),(G3.mk 1 1 true 4 0 0 0 0 [] 0 0 0)]),E3 ([(G9.mk 0 [0,1])]),G0 0,G0 0,G0 0,G0 0,E4 ([]:List Row),E5 ([]:List Frame),E6 ([]:List Gp),G0 0,G0 0,G0 0,G0 0]],[],G,O,⟨⟨_,⟨_,_,_,_,O,O,O,.inl ⟨H3,O⟩⟩,.conv (.same O)⟩,G⟩,O,congrArg (fun r:Gr=>(.agg (Gr.cs r):AV)) (Option.some.inj h)⟩)

def Jp (box:Int) (column:Int) (tier:Int) (half:Int):Option Stowed:=
 some (Stowed.mk box (Slot.mk column tier half))
theorem Q3 (box:Int) (column:Int) (tier:Int) (half:Int) (r:Stowed) (h:Jp box column tier half=some r):Pure Ek 21 [G0 box,G0 column,G0 tier,U8 half] (·=.agg (Stowed.cs r)):=by
 unfold Jp at h
 refine H7 [.cell 8 47] Tryz.func21 O O (Jr fun hK1=>(JLh (.ptr 1055 0) (Gdb 1055 [G0 0,G0 0,G0 0,U8 0] [.int .i64 0,.int .i64 0,.int .i64 0,.int .u8 0] Y8 ⟨.inl O,.inl O,.inl O,.inl O,G⟩ O O) O (G7 (hK1 ?_))))
 refine Jr fun hK2=>(Rt (G0 box) O (Rt (G0 column) O (Rt (G0 tier) O (Rt (U8 half) O (JLh (.agg [G0 column,G0 tier,U8 half]) (Hg (cs:=[G0 column,G0 tier,U8 half]) [(0,1),(1,1),(2,1)] [G0 0,G0 0,U8 0] [.int .i64 0,.int .i64 0,.int .u8 0] G15 G5e ⟨.inl O,.inl O,.inl O,G⟩ O O) O (JLh (.agg [G0 box,G0 column,G0 tier,U8 half]) (Hg (cs:=[G0 box,G0 column,G0 tier,U8 half]) [(0,1),(1,3)] [G0 0,G0 0,G0 0,U8 0] [.int .i64 0,.int .i64 0,.int .i64 0,.int .u8 0] Ri Y8 ⟨.inl O,.inl O,.inl O,.inl O,G⟩ O O) O (Hu (u:=.junk) (Hj (u:=.agg [G0 box,G0 column,G0 tier,U8 half]) (ds:=[G0 box,G0 column,G0 tier,U8 half]) Yv O O O O O O O O) (G7 (hK2 (Gw ?_))))))))))
 exact⟨[.agg [G0 box,G0 column,G0 tier,U8 half]],[],G,O,⟨⟨_,⟨_,_,_,_,O,O,O,.inl ⟨Qw,O⟩⟩,.conv (.same O)⟩,G⟩,O,congrArg (fun r:Stowed=>(.agg (Stowed.cs r):AV)) (Option.some.inj h)⟩

def G21 (x:Int):Option Bool:=
 some (decide (x≠x))
theorem Ge6 (x:Int) (r:Bool) (h:G21 x=some r):Pure Ek 94 [G0 x] (·=BL r):=by
 unfold G21 at h
 refine H7 [.tmp 2] Tryz.func94 O O (Jr fun hK1=>(Rt (BL false) O (G7 (hK1 (Jr fun hK2=>(Rt (G0 x) O (Rt (G0 x) O (JLh (BL (decide (x≠x))) (G0f O O O) O (Rt (BL (decide (x≠x))) O (G7 (hK2 (Gw (fin1 BL h)))))))))))))

def G3a (x:Int) (y:Int):Option Bool:=
 bnd (G21 x) fun r3=>
 bnd (bif r3 then G21 y else some default) fun r4=>
 some ((r3&&(!r4))||(decide (x < y)))
theorem Hd7 (x:Int) (y:Int) (r:Bool) (h:G3a x y=some r):Pure Ek 59 [G0 x,G0 y] (·=BL r):=by
 unfold G3a at h
 refine H7 [.tmp 4] Tryz.func59 O O (Jr fun hK1=>(Rt (BL false) O (G7 (hK1 (Jr fun hK2=>(Rt (G0 x) O ?_))))))
 obtain⟨r3,hr3,h⟩:=Gf h
 refine JLh (BL r3) (Gu O (Ge6 x r3 hr3) J25 ⟨O,O,G⟩) O (Rt (BL r3) O (JLo (G0 y) [] O .sct G (fun hc=>G5 O O) O ?_))
 obtain⟨r4,hr4,h⟩:=Gf h
 refine JLo (BL r4) [8] O .sct ⟨Ua,G⟩ (fun hc=>Gu (args:=[G0 y]) O (Ge6 y r4 (H6 hc hr4)) J25 ⟨O,O,G⟩) O (JLo (BL (!r4)) [9] O .sct ⟨Ua,G⟩ (fun hc=>Zs (b:=r4) O O) O (JLh (BL (r3&&(!r4))) (Q1 O O O O) O (Rt (BL (r3&&(!r4))) O (JLo (G0 x) [] O .scf G (fun hc=>G5 O O) O (JLo (G0 y) [] O .scf G (fun hc=>G5 O O) O (JLo (BL (decide (x < y))) [13,14] O .scf ⟨Ua,Ua,G⟩ (fun hc=>Q0 O O O) O (JLh (BL ((r3&&(!r4))||(decide (x < y)))) (G11 O O O O) O (Rt (BL ((r3&&(!r4))||(decide (x < y)))) O (G7 (hK2 (Gw (fin1 BL h))))))))))))

def Zh (x:Int):Option Bool:=
 some (decide (x≠x))
theorem Ga0 (x:Int) (r:Bool) (h:Zh x=some r):Pure Ek 60 [G0 x] (·=BL r):=by
 unfold Zh at h
 refine H7 [.tmp 2] Tryz.func60 O O (Jr fun hK1=>(Rt (BL false) O (G7 (hK1 (Jr fun hK2=>(Rt (G0 x) O (Rt (G0 x) O (JLh (BL (decide (x≠x))) (G0f O O O) O (Rt (BL (decide (x≠x))) O (G7 (hK2 (Gw (fin1 BL h)))))))))))))

def Qk (F:Nat) (x:List Int) (target:Int):Option (Int×Bool):=
 loop (fun nx16 (s16:Int×Int)=>
  bif decide (s16.1 < s16.2) then
  (G1c (s16.1+s16.2) fun v20=>
   G1c (G82 .u64 (IntKind.u64.wrap v20) 1) fun v21=>
   Y9 x v21 fun y23=>
   bnd (G3a y23 target) fun r25=>
   bif r25 then
   (G1c (v21+1) fun v26=>
    nx16 (v26,s16.2))
   else
   (nx16 (s16.1,v21)))
  else
  (bnd (bif decide (s16.1 < (x.length:Int)) then Y9 x s16.1 some else some default) fun y28=>
   bnd (bif ((decide (s16.1 < (x.length:Int)))&&!(decide (y28=target))) then Y9 x s16.1 some else some default) fun y29=>
   bnd (bif ((decide (s16.1 < (x.length:Int)))&&!(decide (y28=target))) then Zh y29 else some default) fun r30=>
   bnd (bif (((decide (s16.1 < (x.length:Int)))&&!(decide (y28=target)))&&r30) then Zh target else some default) fun r31=>
   some (s16.1,((decide (s16.1 < (x.length:Int)))&&((decide (y28=target))||(r30&&r31)))))) F (0,(x.length:Int))
theorem G2d (F:Nat) (x:List Int) (target:Int) (r:Int×Bool) (h:Qk F x target=some r):Pure Ek 32 [E0 x,G0 target] (·=.tup [G0 r.1,BL r.2]):=by
 unfold Qk at h
 refine H7 [.tmp 4,.tmp 5] Tryz.func32 O O (Jr fun hK1=>(Rt (G0 0) O (Rt (BL false) O (G7 (hK1 (Jr fun hK2=>(Rt (E0 x) O (JLl Gq O O O fun hm11=>(Rt (Ej x.length) O (G7 (hK2 (Jr fun hK3=>(Rt (Ej x.length) O (Rt (G0 0) O (Rt (Ej x.length) O (G7 (hK3 (Js fun hK4=>H1 ?_))))))))))))))))))
 obtain⟨b16,hb16,h⟩:=loop_in h
 refine J3 (fun i16 (s16:Int×Int)=>loop b16 i16 s16=some r) (fun i16 s16=>[(0,E0 x),(1,G0 target),(6,Ej x.length),(7,G0 s16.1),(8,G0 s16.2)]) (fun i16 s16=>[]) (fun i16=>i16) F (0,(x.length:Int)) h ⟨(by repeat' constructor),G,rfl⟩ ?_
 clear h
 intro i16 s16 hi16 K16 e16
 obtain⟨m16,nx16,hm_16,hn16,h⟩:=loop_out hi16
 replace h:=app2 hb16 h
 refine Js fun hK17=>Jr fun hK18=>(Rt (G0 s16.1) O (Rt (G0 s16.2) O (JLh (BL (decide (s16.1 < s16.2))) (Q0 O O O) O (G7 (hK18 (JCc O h (fun h hb=>?_) (fun h hb=>?_)))))))
 ·
  refine Gs (hK17 (H1 (Jr fun hK19=>(Rt (G0 s16.1) O (Rt (G0 s16.2) O ?_)))))
  obtain⟨v20,hv20,h⟩:=Jg h
  refine JLh (G0 v20) (J0 hv20 O O O) O (JLh (.sc (.int .u64 (IntKind.u64.wrap v20))) (G90 J1b G08 O O O) O (JLh (.sc (.int .u64 (G82 .u64 (IntKind.u64.wrap v20) 1))) (Hda (s:=1) O O O O) O ?_))
  obtain⟨v21,hv21,h⟩:=Jg h
  refine JLh (G0 v21) (G90 G08 J1b hv21 O O) O (Rt (G0 v21) O (G7 (hK19 (Jr fun hK22=>(Rt (E0 x) O (Rt (G0 v21) O ?_))))))
  obtain⟨m24,y23,hm24,hy23,h⟩:=R3 h
  refine JLh (.dptr [G0 y23]) (Ha (f:=G0) (xs:=x) (y:=y23) O O O Gq hy23 hm24) O (JLh (G0 y23) (Gj Gg O O O) O (Rt (G0 target) O ?_))
  obtain⟨r25,hr25,h⟩:=Gf h
  refine JLh (BL r25) (Gu O (Hd7 y23 target r25 hr25) Jc9 ⟨O,O,O,O,G⟩) O (G7 (hK22 (JCc O h (fun h hb=>?_) (fun h hb=>?_))))
  ·
   refine G4 (Rt (G0 v21) O ?_)
   obtain⟨v26,hv26,h⟩:=Jg h
   refine JLh (G0 v26) (J0 hv26 O O O) O (Rt (G0 v26) O (G7 (e16 _ _ m16 (v26,s16.2) (app1 hn16 h) (by omega) ⟨(by repeat' constructor),G,rfl⟩)))
  ·
   refine G4 (Rt (G0 v21) O (Rt (G0 v21) O (G7 (e16 _ _ m16 (s16.1,v21) (app1 hn16 h) (by omega) ⟨(by repeat' constructor),G,rfl⟩))))
 ·
  refine J8 (hK4 (Jr fun hK27=>(Rt (G0 s16.1) O (Rt (G0 s16.1) O (Rt (Ej x.length) O (JLh (BL (decide (s16.1 < (x.length:Int)))) (Q0 O O O) O (Rt (BL (decide (s16.1 < (x.length:Int)))) O (JLo (E0 x) [] O .sct G (fun hc=>G5 O O) O (JLo (G0 s16.1) [] O .sct G (fun hc=>G5 O O) O ?_)))))))))
  obtain⟨y28,hy28,h⟩:=Gf h
  refine JLo (.dptr [G0 y28]) [36,37] O .sct ⟨Ua,Ua,G⟩ (fun hc=>(match Za (H6 hc hy28) with | ⟨_,hm_,hy_⟩=>Ha (f:=G0) (xs:=x) (y:=y28) O O O Gq hy_ hm_)) O (JLo (G0 y28) [38] O .sct ⟨Ua,G⟩ (fun hc=>Gj Gg O O O) O (JLo (G0 target) [] O .sct G (fun hc=>G5 O O) O (JLo (BL (decide (y28=target))) [39,40] O .sct ⟨Ua,Ua,G⟩ (fun hc=>Jf O O O) O (JLo (BL (decide (y28=target))) [41] O .sct ⟨Ua,G⟩ (fun hc=>G5 O O) O (JLo (E0 x) [] O .optf G (fun hc=>G5 O O) O (JLo (G0 s16.1) [] O .optf G (fun hc=>G5 O O) O ?_))))))
  obtain⟨y29,hy29,h⟩:=Gf h
  refine JLo (.dptr [G0 y29]) [43,44] O .optf ⟨Ua,Ua,G⟩ (fun hc=>(match Za (H6 hc hy29) with | ⟨_,hm_,hy_⟩=>Ha (f:=G0) (xs:=x) (y:=y29) O O O Gq hy_ hm_)) O (JLo (G0 y29) [45] O .optf ⟨Ua,G⟩ (fun hc=>Gj Gg O O O) O ?_)
  obtain⟨r30,hr30,h⟩:=Gf h
  refine JLo (BL r30) [46] O .optf ⟨Ua,G⟩ (fun hc=>Gu (args:=[G0 y29]) O (Ga0 y29 r30 (H6 hc hr30)) J2a ⟨O,O,G⟩) O (JLo (BL r30) [47] O .optf ⟨Ua,G⟩ (fun hc=>G5 O O) O (JLo (G0 target) [] O .optt G (fun hc=>G5 O O) O ?_))
  obtain⟨r31,hr31,h⟩:=Gf h
  refine JLo (BL r31) [49] O .optt ⟨Ua,G⟩ (fun hc=>Gu (args:=[G0 target]) O (Ga0 target r31 (H6 hc hr31)) J2a ⟨O,O,G⟩) O (Gc (u:=BL (r30&&r31)) [(48,BL r30),(50,_)] O O O .optf ⟨.all id,.part,G⟩ (fun hc=>Q1 O O O O) ?_)
  refine Gc (u:=BL ((decide (y28=target))||(r30&&r31))) [(42,BL (decide (y28=target))),(51,_)] O O O .sct ⟨.all id,.part,G⟩ (fun hc=>G11 O O O O) ?_
  refine JLh (BL ((decide (s16.1 < (x.length:Int)))&&((decide (y28=target))||(r30&&r31)))) (Q1 O O O O) O (Rt (G0 s16.1) O (Rt (BL ((decide (s16.1 < (x.length:Int)))&&((decide (y28=target))||(r30&&r31)))) O (G7 (hK27 (Gw (⟨[G0 s16.1,BL ((decide (s16.1 < (x.length:Int)))&&((decide (y28=target))||(r30&&r31)))],[],G,O,⟨⟨_,O,.conv (.same O)⟩,⟨_,O,.conv (.same O)⟩,G⟩,O,congrArg (fun r:Int×Bool=>(.tup [G0 r.1,BL r.2]:AV)) (Option.some.inj h)⟩))))))

def R8 (F:Nat) (s:Gr) (boxes:List Gb) (l:List Stowed) (open_:List Int) (cover:Int):Option ((List Int)×Int):=
 bnd (Jq s boxes l open_) fun r4=>
 bif (!r4) then
 (some ([],2))
 else
 (bif ((decide (cover < 0))||(decide ((s.Covers.length:Int)≤cover))) then
  (some ([],6))
  else
  (bnd (G69 s l cover) fun r9=>
   bif decide (0 < (r9.length:Int)) then
   (some ([],95))
   else
   (bnd (Qk F open_ cover) fun r12=>
    bif r12.2 then
    (bnd (Qa open_) fun r16=>
     some (r16,0))
    else
    (bnd (G1e open_ r12.1 cover) fun r18=>
     some (r18,0)))))
theorem G26 (F:Nat) (s:Gr) (boxes:List Gb) (l:List Stowed) (open_:List Int) (cover:Int) (r:(List Int)×Int) (h:R8 F s boxes l open_ cover=some r):Pure Ek 13 [.agg (Gr.cs s),E2 boxes,E1 l,E0 open_,G0 cover] (·=.tup [E0 r.1,G0 r.2]):=by
 unfold R8 at h
 refine H7 [.tmp 10,.tmp 11] Tryz.func13 O O (Jr fun hK1=>(JLh (.ptr 1042 0) (Q9 (cs:=(Gr.cs s)) 1042 O O O O O) O (JLh (E0 ([]:List Int)) (Hk 1 O O) O (Rt (G0 0) O (G7 (hK1 ?_))))))
 refine Gt [(1,E2 boxes),(2,E1 l),(3,E0 open_),(4,G0 cover),(5,Ec s)] [] 1042 rfl rfl rfl G rfl (by repeat' (first | exact .ptr | constructor)) (Js fun hK2=>H1 ?_)
 refine Jr fun hK3=>(JLh (.agg (Gr.cs s)) (Gh H3 O O O) O (Rt (E2 boxes) O (Rt (E1 l) O (Rt (E0 open_) O ?_))))
 obtain⟨r4,hr4,h⟩:=Gf h
 refine JLh (BL r4) (Gu O (G0b s boxes l open_ r4 hr4) Gc7 ⟨O,O,O,O,O,O,O,O,G⟩) O (JLh (BL (!r4)) (Zs (b:=r4) O O) O (Rt (BL (!r4)) O (G7 (hK3 (JCc O h (fun h hb=>?_) (fun h hb=>?_))))))
 ·
  refine Jr fun hK5=>(JLh (E0 ([]:List Int)) (Hk 1 O O) O (Rt (G0 2) O (G7 (hK5 (Gw (⟨[E0 ([]:List Int),G0 2],[],G,O,⟨⟨_,O,.conv (.same O)⟩,⟨_,O,.conv (.same O)⟩,G⟩,O,congrArg (fun r:(List Int)×Int=>(.tup [E0 r.1,G0 r.2]:AV)) (Option.some.inj h)⟩))))))
 ·
  refine Jr fun hK6=>(Rt (G0 cover) O (JLh (BL (decide (cover < 0))) (Q0 O O O) O (Rt (BL (decide (cover < 0))) O (JLo (G0 cover) [] O .scf G (fun hc=>G5 O O) O (JLo (.dptr [E3 s.Covers,G0 s.Light.Kilos,G0 s.Light.X,G0 s.Light.Y,G0 s.Light.Z,E4 s.Rows,E5 s.Frames,E6 s.Tanks,G0 s.G2.Tolerance,G0 s.G2.Trim,G0 s.G2.List_,G0 s.G2.Stability]) [] O .scf G (fun hc=>Gd Hx O O O) O (JLo (E3 s.Covers) [26] O .scf ⟨Ua,G⟩ (fun hc=>Gj J9 O O O) O (JLo (Ej s.Covers.length) [27] O .scf ⟨Ua,G⟩ (fun hc=>Z1 (f:=G9.av) (xs:=s.Covers) J7 O O) O (JLo (BL (decide ((s.Covers.length:Int)≤cover))) [25,28] O .scf ⟨Ua,Ua,G⟩ (fun hc=>Gaf O O O) O (JLh (BL ((decide (cover < 0))||(decide ((s.Covers.length:Int)≤cover)))) (G11 O O O O) O (Rt (BL ((decide (cover < 0))||(decide ((s.Covers.length:Int)≤cover)))) O (G7 (hK6 ?_))))))))))))
  refine JCc O h (fun h hb=>?_) (fun h hb=>?_)
  ·
   refine Jr fun hK7=>(JLh (E0 ([]:List Int)) (Hk 1 O O) O (Rt (G0 6) O (G7 (hK7 (Gw (⟨[E0 ([]:List Int),G0 6],[],G,O,⟨⟨_,O,.conv (.same O)⟩,⟨_,O,.conv (.same O)⟩,G⟩,O,congrArg (fun r:(List Int)×Int=>(.tup [E0 r.1,G0 r.2]:AV)) (Option.some.inj h)⟩))))))
  ·
   refine Jr fun hK8=>(JLh (.agg (Gr.cs s)) (Gh H3 O O O) O (Rt (E1 l) O (Rt (G0 cover) O ?_)))
   obtain⟨r9,hr9,h⟩:=Gf h
   refine JLh (E0 r9) (Gu O (H6c s l cover r9 hr9) J36 ⟨O,O,O,O,O,O,G⟩) O (JLl Gq O O O fun hm36=>(JLh (BL (decide (0 < (r9.length:Int)))) (Gae O O O) O (Rt (BL (decide (0 < (r9.length:Int)))) O (G7 (hK8 (JCc O h (fun h hb=>?_) (fun h hb=>?_)))))))
   ·
    refine Jr fun hK10=>(JLh (E0 ([]:List Int)) (Hk 1 O O) O (Rt (G0 95) O (G7 (hK10 (Gw (⟨[E0 ([]:List Int),G0 95],[],G,O,⟨⟨_,O,.conv (.same O)⟩,⟨_,O,.conv (.same O)⟩,G⟩,O,congrArg (fun r:(List Int)×Int=>(.tup [E0 r.1,G0 r.2]:AV)) (Option.some.inj h)⟩))))))
   ·
    refine Gs (hK2 (Jr fun hK11=>(Rt (E0 open_) O (Rt (G0 cover) O ?_))))
    obtain⟨r12,hr12,h⟩:=Gf h
    refine JLh (.tup [G0 r12.1,BL r12.2]) (Gu O (G2d F open_ cover r12 hr12) J35 ⟨O,O,O,O,G⟩) O (Rt (.tup [G0 r12.1,BL r12.2]) O (JLh (G0 r12.1) (Gv O O O) O (JLh (BL r12.2) (Gv O O O) O (Rt (G0 r12.1) O (Rt (BL r12.2) O (G7 (hK11 (Js fun hK13=>Jr fun hK14=>(Rt (BL r12.2) O (G7 (hK14 (JCc O h (fun h hb=>?_) (fun h hb=>?_)))))))))))))
    ·
     refine Jr fun hK15=>(Rt (E0 open_) O ?_)
     obtain⟨r16,hr16,h⟩:=Gf h
     refine JLh (E0 r16) (Gu O (Ga1 open_ r16 hr16) J34 ⟨O,O,G⟩) O (Rt (E0 r16) O (Rt (G0 0) O (G7 (hK15 (Gw (⟨[E0 r16,G0 0],[],G,O,⟨⟨_,O,.conv (.same O)⟩,⟨_,O,.conv (.same O)⟩,G⟩,O,congrArg (fun r:(List Int)×Int=>(.tup [E0 r.1,G0 r.2]:AV)) (Option.some.inj h)⟩))))))
    ·
     refine Gs (hK13 (Jr fun hK17=>(Rt (E0 open_) O (Rt (G0 r12.1) O (Rt (G0 cover) O ?_)))))
     obtain⟨r18,hr18,h⟩:=Gf h
     refine JLh (E0 r18) (Gu O (Haf.down open_ r12.1 cover r18 hr18) Jd5 ⟨O,O,O,O,O,O,G⟩) O (Rt (E0 r18) O (Rt (G0 0) O (G7 (hK17 (Gw (⟨[E0 r18,G0 0],[],G,O,⟨⟨_,O,.conv (.same O)⟩,⟨_,O,.conv (.same O)⟩,G⟩,O,congrArg (fun r:(List Int)×Int=>(.tup [E0 r.1,G0 r.2]:AV)) (Option.some.inj h)⟩))))))

def Yz (p:He):Option Bool:=
 bnd (Zi p.s p.x.Slot.G3) fun r4=>
 bnd (bif decide (0≤r4) then Y9 p.s.Columns p.x.Slot.G3 some else some default) fun y6=>
 bnd (bif decide (0≤r4) then Qs p.open_ r4 else some default) fun r7=>
 some ((decide (0≤r4))&&(y6.Deck==r7))
theorem H2c (p:He) (r:Bool) (h:Yz p=some r):Pure Ek 39 [.agg (He.cs p)] (·=BL r):=by
 unfold Yz at h
 refine H7 [.tmp 2] Tryz.func39 O O (Jr fun hK1=>(JLh (.ptr 1081 0) (Q9 (cs:=(He.cs p)) 1081 O O O O O) O (Rt (BL false) O (G7 (hK1 ?_)))))
 refine Gt [(1,Ef p)] [] 1081 rfl rfl rfl G rfl (by exact⟨.ptr,G⟩) (Jr fun hK2=>(JLh (Ed p.x) (Gd G23 O O O) O (JLh (.dptr ((Stowed.cs p.x).drop 1)) (Gd Hq O O O) O (JLh (.dptr ((Stowed.cs p.x).drop 1)) (Gd Jc O O O) O (JLh (G0 p.x.Slot.G3) (Gj Gg O O O) O (Rt (G0 p.x.Slot.G3) O (G7 (hK2 ?_))))))))
 refine Jr fun hK3=>(JLh (Ef p) (Gd Gee O O O) O (JLh (.agg (Gr.cs p.s)) (Gh H3 O O O) O (Rt (G0 p.x.Slot.G3) O ?_)))
 obtain⟨r4,hr4,h⟩:=Gf h
 refine JLh (G0 r4) (Gu O (H03 p.s p.x.Slot.G3 r4 hr4) J2d ⟨O,O,O,O,G⟩) O (Rt (G0 r4) O (G7 (hK3 (Js fun hK5=>?_))))
 obtain⟨y6,hy6,h⟩:=Gf h
 obtain⟨r7,hr7,h⟩:=Gf h
 refine JC_d0 Jx (by kernel_rfl) (Dq (G0 r4) (G5 O O) O (Dq (BL (decide (0≤r4))) (Gaf O O O) O (Dq (BL (decide (0≤r4))) (G5 O O) O (Do (Ef p) [] O .sct G (fun hc=>Gd Gee O O O) O (Do (Ef p) [16] O .sct ⟨Ua,G⟩ (fun hc=>Gd Ho O O O) O (Do (E7 p.s.Columns) [17] O .sct ⟨Ua,G⟩ (fun hc=>Gj J1 O O O) O (Do (G0 p.x.Slot.G3) [] O .sct G (fun hc=>G5 O O) O (Do (Ee y6) [18,19] O .sct ⟨Ua,Ua,G⟩ (fun hc=>(match Za (H6 hc hy6) with | ⟨_,hm_,hy_⟩=>Ha (f:=G3.av) (xs:=p.s.Columns) (y:=y6) O O O Hs hy_ hm_)) O (Do (.dptr ((G3.cs y6).drop 2)) [20] O .sct ⟨Ua,G⟩ (fun hc=>Gd Rf O O O) O (Do (BL y6.Deck) [21] O .sct ⟨Ua,G⟩ (fun hc=>Gj Jw O O O) O (Do (.dptr [E0 p.open_,G0 p.x.Gb,G0 p.x.Slot.G3,G0 p.x.Slot.Tier,U8 p.x.Slot.Half]) [] O .sct G (fun hc=>Gd J79 O O O) O (Do (E0 p.open_) [23] O .sct ⟨Ua,G⟩ (fun hc=>Gj R2 O O O) O (Do (G0 r4) [] O .sct G (fun hc=>G5 O O) O ?_)))))))))))))
 refine Do (BL r7) [24,25] O .sct ⟨Ua,Ua,G⟩ (fun hc=>Gu (args:=[E0 p.open_,G0 r4]) O (G0d p.open_ r4 r7 (H6 hc hr7)) H77 ⟨O,O,O,O,G⟩) O (Do (BL (y6.Deck==r7)) [22,26] O .sct ⟨Ua,Ua,G⟩ (fun hc=>Hb8 Gbd O O O) O (Dq (BL ((decide (0≤r4))&&(y6.Deck==r7))) (Q1 O O O O) O (Dq (BL ((decide (0≤r4))&&(y6.Deck==r7))) (G8 O O) O (Dnil (hK5 (Gw (fin1 BL h)))))))

def R1 (y:Stowed) (p1:He):Option Bool:=
 bnd (G6b p1.x.Slot y.Slot) fun r3=>
 some r3
theorem H21 (y:Stowed) (p1:He) (r:Bool) (h:R1 y p1=some r):Pure Ek 70 [.agg (Stowed.cs y),Ef p1] (·=BL r):=by
 unfold R1 at h
 refine H7 [.tmp 3] Tryz.func70 O O (Jr fun hK1=>(JLh (.ptr 1110 0) (Q9 (cs:=[G0 y.Gb,G0 y.Slot.G3,G0 y.Slot.Tier,U8 y.Slot.Half]) 1110 O O O O O) O (Rt (BL false) O (G7 (hK1 (Gt [(1,Ef p1),(2,Ed y)] [] 1110 rfl rfl rfl G rfl (by exact⟨.conv (.same rfl),.ptr,G⟩) (Jr fun hK2=>(JLh (.dptr ((He.cs p1).drop 16)) (Gd G23 O O O) O (JLh (.dptr ((He.cs p1).drop 17)) (Gd Hq O O O) O (JLh (.agg ((He.cs p1).drop 17)) (Gh Qb O O O) O (JLh (.dptr ((Stowed.cs y).drop 1)) (Gd Hq O O O) O (JLh (.agg ((Stowed.cs y).drop 1)) (Gh Qb O O O) O ?_))))))))))))
 obtain⟨r3,hr3,h⟩:=Gf h
 refine JLh (BL r3) (Gu O (H6e p1.x.Slot y.Slot r3 hr3) J2f ⟨O,O,O,O,G⟩) O (Rt (BL r3) O (G7 (hK2 (Gw (fin1 BL h)))))

def Qz (s:List Stowed) (f:Stowed→Option Bool):Option Bool:=
 bnd (Qo s f) fun r3=>
 some (decide (0≤r3))
theorem G70 (s:List Stowed) (f:Stowed→Option Bool) (f_f:FuncId) (f_c:List AV) (f_B:Hf Ek f_f=true) (f_d:Yn (fun _=>false) f_c=true) (f_w:∀ a0 q,f a0=some q→Pure Ek f_f ([.agg (Stowed.cs a0)]++f_c) (·=BL q)) (r:Bool) (h:Qz s f=some r):Pure Ek 69 [E1 s,.fn f_f f_c] (·=BL r):=by
 unfold Qz at h
 refine H7 [.tmp 4] Tryz.func69 O O (Jr fun hK1=>(Rt (BL false) O (G7 (hK1 (Jr fun hK2=>(Rt (E1 s) O (Rt (.fn f_f f_c) O ?_)))))))
 obtain⟨r3,hr3,h⟩:=Gf h
 refine JLh (G0 r3) (Gu O (G0c s f f_f f_c f_B f_d f_w r3 hr3) J2c ⟨O,O,O,f_d,G⟩) O (JLh (BL (decide (0≤r3))) (Gaf O O O) O (Rt (BL (decide (0≤r3))) O (G7 (hK2 (Gw (fin1 BL h))))))

def Zf (p:He):Option Bool:=
 bnd (Qz p.l (fun z0=>R1 z0 p)) fun r3=>
 some r3
theorem H4a (p:He) (r:Bool) (h:Zf p=some r):Pure Ek 40 [.agg (He.cs p)] (·=BL r):=by
 unfold Zf at h
 refine H7 [.tmp 2] Tryz.func40 O O (Jr fun hK1=>(JLh (.ptr 1082 0) (Q9 (cs:=(He.cs p)) 1082 O O O O O) O (Rt (BL false) O (G7 (hK1 ?_)))))
 refine Gt [(1,Ef p)] [] 1082 rfl rfl rfl G rfl (by exact⟨.ptr,G⟩) ?_
 refine Jr fun hK2=>(JLh (.dptr [E1 p.l,E0 p.open_,G0 p.x.Gb,G0 p.x.Slot.G3,G0 p.x.Slot.Tier,U8 p.x.Slot.Half]) (Gd G52 O O O) O (JLh (E1 p.l) (Gj Rv O O O) O (JLh (.fn 70 [.dptr (He.cs p)]) (Zj (cs:=[.dptr (He.cs p)]) O O) O ?_)))
 obtain⟨r3,hr3,h⟩:=Gf h
 refine JLh (BL r3) (Gu O (G70 p.l (fun z0=>R1 z0 p) 70 [.dptr (He.cs p)] Jc3 O (fun z0 q hq=>H21 z0 p q hq) r3 hr3) Jc4 ⟨O,O,O,O,G⟩) O (Rt (BL r3) O (G7 (hK2 (Gw (fin1 BL h)))))

def Zp (p:He):Option Bool:=
 bnd (G45 p.l) fun r3=>
 bnd (G6c p.x.Slot r3) fun r4=>
 some (!r4)
theorem H22 (p:He) (r:Bool) (h:Zp p=some r):Pure Ek 41 [.agg (He.cs p)] (·=BL r):=by
 unfold Zp at h
 refine H7 [.tmp 2] Tryz.func41 O O (Jr fun hK1=>(JLh (.ptr 1083 0) (Q9 (cs:=(He.cs p)) 1083 O O O O O) O (Rt (BL false) O (G7 (hK1 ?_)))))
 refine Gt [(1,Ef p)] [] 1083 rfl rfl rfl G rfl (by exact⟨.ptr,G⟩) (Js fun hK2=>?_)
 obtain⟨r3,hr3,h⟩:=Gf h
 obtain⟨r4,hr4,h⟩:=Gf h
 refine JC_d0 Jx (by kernel_rfl) (Dq (Ed p.x) (Gd G23 O O O) O (Dq (.dptr ((Stowed.cs p.x).drop 1)) (Gd Hq O O O) O (Dq (.agg ((Stowed.cs p.x).drop 1)) (Gh Qb O O O) O (Dq (.dptr [E1 p.l,E0 p.open_,G0 p.x.Gb,G0 p.x.Slot.G3,G0 p.x.Slot.Tier,U8 p.x.Slot.Half]) (Gd G52 O O O) O (Dq (E1 p.l) (Gj Rv O O O) O (Dq (E8 r3) (Gu (args:=[E1 p.l]) O (H49 p.l r3 hr3) J31 ⟨O,O,G⟩) O (Dq (BL r4) (Gu (args:=[.agg ((Stowed.cs p.x).drop 1),E8 r3]) O (H6f p.x.Slot r3 r4 hr4) J30 ⟨O,O,O,O,G⟩) O (Dq (BL (!r4)) (Zs (b:=r4) O O) O (Dq (BL (!r4)) (G8 O O) O (Dnil (hK2 (Gw (fin1 BL h)))))))))))))

def Rb (F:Nat) (p:He):Option (List Stowed):=
 loop (fun nx10 (s10:Int)=>
  bnd (bif decide (s10 < (p.l.length:Int)) then Y9 p.l s10 some else some default) fun y13=>
  bif ((decide (s10 < (p.l.length:Int)))&&(decide (y13.Gb < p.x.Gb))) then
  (G1c (s10+1) fun v14=>
   nx10 v14)
  else
  (bnd (Ra p.l s10 p.x) fun r16=>
   some r16)) F 0
theorem G6a (F:Nat) (p:He) (r:(List Stowed)) (h:Rb F p=some r):Pure Ek 43 [.agg (He.cs p)] (·=E1 r):=by
 unfold Rb at h
 refine H7 [.tmp 2] Tryz.func43 O O (Jr fun hK1=>(JLh (.ptr 1085 0) (Q9 (cs:=(He.cs p)) 1085 O O O O O) O (JLh (E1 ([]:List Stowed)) (Hk 4 O O) O (G7 (hK1 ?_)))))
 refine Gt [(1,Ef p)] [] 1085 rfl rfl rfl G rfl (by exact⟨.ptr,G⟩) (Jr fun hK2=>(Rt (G0 0) O (G7 (hK2 (Js fun hK3=>H1 ?_)))))
 obtain⟨b10,hb10,h⟩:=loop_in h
 refine J3 (fun i10 (s10:Int)=>loop b10 i10 s10=some r) (fun i10 s10=>[(1,Ef p),(3,G0 s10)]) (fun i10 s10=>[]) (fun i10=>i10) F 0 h ⟨⟨.same O,.same O,G⟩,G,O⟩ ?_
 clear h
 intro i10 s10 hi10 K10 e10
 obtain⟨m10,nx10,hm_10,hn10,h⟩:=loop_out hi10
 replace h:=app2 hb10 h
 refine Js fun hK11=>Js fun hK12=>?_
 obtain⟨y13,hy13,h⟩:=Gf h
 refine JC_d0 Jx (by kernel_rfl) (Dq (G0 s10) (G5 O O) O (Dq (.dptr [E1 p.l,E0 p.open_,G0 p.x.Gb,G0 p.x.Slot.G3,G0 p.x.Slot.Tier,U8 p.x.Slot.Half]) (Gd G52 O O O) O (Dq (E1 p.l) (Gj Rv O O O) O (Dq (Ej p.l.length) (Z1 (f:=Stowed.av) (xs:=p.l) Gx O O) O (Dq (BL (decide (s10 < (p.l.length:Int)))) (Q0 O O O) O (Dq (BL (decide (s10 < (p.l.length:Int)))) (G5 O O) O (Do (.dptr [E1 p.l,E0 p.open_,G0 p.x.Gb,G0 p.x.Slot.G3,G0 p.x.Slot.Tier,U8 p.x.Slot.Half]) [] O .sct G (fun hc=>Gd G52 O O O) O (Do (E1 p.l) [10] O .sct ⟨Ua,G⟩ (fun hc=>Gj Rv O O O) O (Do (G0 s10) [] O .sct G (fun hc=>G5 O O) O (Do (Ed y13) [11,12] O .sct ⟨Ua,Ua,G⟩ (fun hc=>(match Za (H6 hc hy13) with | ⟨_,hm_,hy_⟩=>Ha (f:=Stowed.av) (xs:=p.l) (y:=y13) O O O Gx hy_ hm_)) O (Do (Ed y13) [13] O .sct ⟨Ua,G⟩ (fun hc=>Gd Hw O O O) O (Do (G0 y13.Gb) [14] O .sct ⟨Ua,G⟩ (fun hc=>Gj Gg O O O) O (Do (Ed p.x) [] O .sct G (fun hc=>Gd G23 O O O) O ?_)))))))))))))
 refine Do (Ed p.x) [16] O .sct ⟨Ua,G⟩ (fun hc=>Gd Hw O O O) O (Do (G0 p.x.Gb) [17] O .sct ⟨Ua,G⟩ (fun hc=>Gj Gg O O O) O (Do (BL (decide (y13.Gb < p.x.Gb))) [15,18] O .sct ⟨Ua,Ua,G⟩ (fun hc=>Q0 O O O) O (Dq (BL ((decide (s10 < (p.l.length:Int)))&&(decide (y13.Gb < p.x.Gb)))) (Q1 O O O O) O (Dnil (hK12 (JCc O h (fun h hb=>?_) (fun h hb=>?_)))))))
 ·
  refine Gs (hK11 (H1 (G4 (Rt (G0 s10) O ?_))))
  obtain⟨v14,hv14,h⟩:=Jg h
  refine JLh (G0 v14) (J0 hv14 O O O) O (Rt (G0 v14) O (G7 (e10 _ _ m10 v14 (app1 hn10 h) (by omega) ⟨⟨.same rfl,.same rfl,G⟩,G,rfl⟩)))
 ·
  refine J8 (hK3 (Jr fun hK15=>(JLh (.dptr [E1 p.l,E0 p.open_,G0 p.x.Gb,G0 p.x.Slot.G3,G0 p.x.Slot.Tier,U8 p.x.Slot.Half]) (Gd G52 O O O) O (JLh (E1 p.l) (Gj Rv O O O) O (Rt (G0 s10) O (JLh (Ed p.x) (Gd G23 O O O) O (JLh (.agg (Stowed.cs p.x)) (Gh Qw O O O) O ?_)))))))
  obtain⟨r16,hr16,h⟩:=Gf h
  refine JLh (E1 r16) (Gu O (Gff.down p.l s10 p.x r16 hr16) Jc2 ⟨O,O,O,O,O,O,G⟩) O (Rt (E1 r16) O (G7 (hK15 (Gw (fin1 (fun r:(List Stowed)=>(E1 r:AV)) h)))))

def G06 (F:Nat) (p:He):Option Bool:=
 bnd (Rb F p) fun r3=>
 bnd (G35 p.s p.boxes r3 p.x.Slot.G3) fun r4=>
 some (!r4)
theorem H2d (F:Nat) (p:He) (r:Bool) (h:G06 F p=some r):Pure Ek 42 [.agg (He.cs p)] (·=BL r):=by
 unfold G06 at h
 refine H7 [.tmp 2] Tryz.func42 O O (Jr fun hK1=>(JLh (.ptr 1084 0) (Q9 (cs:=(He.cs p)) 1084 O O O O O) O (Rt (BL false) O (G7 (hK1 ?_)))))
 refine Gt [(1,Ef p)] [] 1084 rfl rfl rfl G rfl (by exact⟨.ptr,G⟩) (Js fun hK2=>?_)
 obtain⟨r3,hr3,h⟩:=Gf h
 obtain⟨r4,hr4,h⟩:=Gf h
 refine JC_d0 Jx (by kernel_rfl) (Dq (Ef p) (Gd Gee O O O) O (Dq (.agg (Gr.cs p.s)) (Gh H3 O O O) O (Dq (.dptr [E2 p.boxes,E1 p.l,E0 p.open_,G0 p.x.Gb,G0 p.x.Slot.G3,G0 p.x.Slot.Tier,U8 p.x.Slot.Half]) (Gd J7a O O O) O (Dq (E2 p.boxes) (Gj J86 O O O) O (Dq (.agg (He.cs p)) (Gh Gbe O O O) O (Dq (E1 r3) (Gu (args:=[.agg (He.cs p)]) O (G6a F p r3 hr3) J32 ⟨O,O,G⟩) O (Dq (Ed p.x) (Gd G23 O O O) O (Dq (.dptr ((Stowed.cs p.x).drop 1)) (Gd Hq O O O) O (Dq (.dptr ((Stowed.cs p.x).drop 1)) (Gd Jc O O O) O (Dq (G0 p.x.Slot.G3) (Gj Gg O O O) O (Dq (BL r4) (Gu (args:=[.agg (Gr.cs p.s),E2 p.boxes,E1 r3,G0 p.x.Slot.G3]) O (H6d p.s p.boxes r3 p.x.Slot.G3 r4 hr4) J2e ⟨O,O,O,O,O,O,O,O,G⟩) O (Dq (BL (!r4)) (Zs (b:=r4) O O) O (Dq (BL (!r4)) (G8 O O) O (Dnil ?_))))))))))))))
 refine hK2 (Gw (fin1 BL h))

def Q2 (F:Nat) (s:Gr) (boxes:List Gb) (l:List Stowed) (open_:List Int) (x:Stowed):Option ((List Stowed)×Int):=
 bnd (Jq s boxes l open_) fun r4=>
 bif (!r4) then
 (some ([],2))
 else
 (bnd (G36 boxes x.Gb) fun r7=>
  bif ((!r7.2)||((decide (r7.1.Size≠20))&&(decide (r7.1.Size≠40)))) then
  (some ([],6))
  else
  (bnd (Ro l x.Gb) fun r12=>
   bif decide (0≤r12) then
   (some ([],96))
   else
   (bnd (G48 s x.Slot r7.1.Size) fun r15=>
    bif (!r15) then
    (some ([],97))
    else
    (need (decide (4≤9223372036854775807)) <|
     upto (fun i60 (s60:Unit) nx60=>
      jp (fun kj63=>
       bif decide ((i60:Int)=0) then
       (bnd (Yz (He.mk s boxes l open_ x)) fun r67=>
        bif r67 then
        (G1c (91+(i60:Int)) fun v69=>
         some ([],v69))
        else
        (kj63 ()))
       else
       (bif decide ((i60:Int)=1) then
        (bnd (Zf (He.mk s boxes l open_ x)) fun r71=>
         bif r71 then
         (G1c (91+(i60:Int)) fun v73=>
          some ([],v73))
         else
         (kj63 ()))
        else
        (bif decide ((i60:Int)=2) then
         (bnd (Zp (He.mk s boxes l open_ x)) fun r75=>
          bif r75 then
          (G1c (91+(i60:Int)) fun v77=>
           some ([],v77))
          else
          (kj63 ()))
         else
         (bif decide ((i60:Int)=3) then
          (bnd (G06 F (He.mk s boxes l open_ x)) fun r79=>
           bif r79 then
           (G1c (91+(i60:Int)) fun v81=>
            some ([],v81))
           else
           (kj63 ()))
          else
          (none))))) fun(j63:Unit)=>
      nx60 ())
     (fun(s60:Unit)=>
      bnd (Rb F (He.mk s boxes l open_ x)) fun r83=>
      some (r83,0)) (4:Int).toNat 0 ()))))
theorem Yg (F:Nat) (s:Gr) (boxes:List Gb) (l:List Stowed) (open_:List Int) (x:Stowed) (r:(List Stowed)×Int) (h:Q2 F s boxes l open_ x=some r):Pure Ek 16 [.agg (Gr.cs s),E2 boxes,E1 l,E0 open_,.agg (Stowed.cs x)] (·=.tup [E1 r.1,G0 r.2]):=by
 unfold Q2 at h
 refine H7 [.tmp 10,.tmp 11] Tryz.func16 O O (Jr fun hK1=>(JLh (.ptr 1045 0) (Q9 (cs:=(Gr.cs s)) 1045 O O O O O) O (JLh (.ptr 1046 0) (Q9 (cs:=[G0 x.Gb,G0 x.Slot.G3,G0 x.Slot.Tier,U8 x.Slot.Half]) 1046 O O O O O) O (JLh (E1 ([]:List Stowed)) (Hk 4 O O) O (Rt (G0 0) O (G7 (hK1 ?_)))))))
 refine Gt [(1,E2 boxes),(2,E1 l),(3,E0 open_),(5,Ec s),(9,.ptr 1046 0)] [(1046,.box 47 [G0 x.Gb,G0 x.Slot.G3,G0 x.Slot.Tier,U8 x.Slot.Half])] 1045 rfl rfl rfl ⟨⟨_,rfl,.boxEq rfl rfl⟩,G⟩ rfl (by repeat' (first | exact .ptr | constructor)) ?_
 refine Gt [(1,E2 boxes),(2,E1 l),(3,E0 open_),(5,Ec s),(9,Ed x)] [] 1046 rfl rfl rfl G rfl (by repeat' (first | exact .ptr | constructor)) (Js fun hK2=>?_)
 refine Jr fun hK3=>(JLh (.agg (Gr.cs s)) (Gh H3 O O O) O (Rt (E2 boxes) O (Rt (E1 l) O (Rt (E0 open_) O ?_))))
 obtain⟨r4,hr4,h⟩:=Gf h
 refine JLh (BL r4) (Gu O (G0b s boxes l open_ r4 hr4) Gc7 ⟨O,O,O,O,O,O,O,O,G⟩) O (JLh (BL (!r4)) (Zs (b:=r4) O O) O (G7 (hK3 (JCc O h (fun h hb=>?_) (fun h hb=>?_)))))
 ·
  refine Jr fun hK5=>(JLh (E1 ([]:List Stowed)) (Hk 4 O O) O (Rt (G0 2) O (G7 (hK5 (Gw (⟨[E1 ([]:List Stowed),G0 2],[],G,O,⟨⟨_,O,.conv (.same O)⟩,⟨_,O,.conv (.same O)⟩,G⟩,O,congrArg (fun r:(List Stowed)×Int=>(.tup [E1 r.1,G0 r.2]:AV)) (Option.some.inj h)⟩))))))
 ·
  refine Gs (hK2 (Jr fun hK6=>(Rt (E2 boxes) O (JLh (Ed x) (Gd Hw O O O) O (JLh (G0 x.Gb) (Gj Gg O O O) O ?_)))))
  obtain⟨r7,hr7,h⟩:=Gf h
  refine JLh (.tup [.agg (Gb.cs r7.1),BL r7.2]) (Gu O (Gf7 boxes x.Gb r7 hr7) H76 ⟨O,O,O,O,G⟩) O (Rt (.tup [.agg (Gb.cs r7.1),BL r7.2]) O (JLh (.agg (Gb.cs r7.1)) (Gv O O O) O (JLh (BL r7.2) (Gv O O O) O (JLh (.ptr 1047 0) (Ht 1047 9 Y3 O O) O (Hu (u:=.junk) (Hj (u:=.agg (Gb.cs r7.1)) (ds:=(Gb.cs r7.1)) G30 O O O O O O O O) (Rt (BL r7.2) O (G7 (hK6 ?_))))))))
  refine Gt [(1,E2 boxes),(2,E1 l),(3,E0 open_),(5,Ec s),(9,Ed x),(12,Eh r7.1),(13,BL r7.2)] [] 1047 rfl rfl rfl G rfl (by repeat' (first | exact .ptr | constructor)) (Js fun hK8=>H1 ?_)
  refine Jr fun hK9=>(Rt (BL r7.2) O (JLh (BL (!r7.2)) (Zs (b:=r7.2) O O) O (Rt (BL (!r7.2)) O (JLo (.dptr ((Gb.cs r7.1).drop 2)) [] O .scf G (fun hc=>Gd Yc O O O) O (JLo (U8 r7.1.Size) [34] O .scf ⟨Ua,G⟩ (fun hc=>Gj Hy O O O) O (JLo (BL (decide (r7.1.Size≠20))) [35] O .scf ⟨Ua,G⟩ (fun hc=>G0f O O O) O (JLo (BL (decide (r7.1.Size≠20))) [36] O .scf ⟨Ua,G⟩ (fun hc=>G5 O O) O (JLo (.dptr ((Gb.cs r7.1).drop 2)) [] O .optt G (fun hc=>Gd Yc O O O) O (JLo (U8 r7.1.Size) [38] O .optt ⟨Ua,G⟩ (fun hc=>Gj Hy O O O) O (JLo (BL (decide (r7.1.Size≠40))) [39] O .optt ⟨Ua,G⟩ (fun hc=>G0f O O O) O (Gc (u:=BL ((decide (r7.1.Size≠20))&&(decide (r7.1.Size≠40)))) [(37,BL (decide (r7.1.Size≠20))),(40,_)] O O O .scf ⟨.all id,.part,G⟩ (fun hc=>Q1 O O O O) ?_)))))))))))
  refine JLh (BL ((!r7.2)||((decide (r7.1.Size≠20))&&(decide (r7.1.Size≠40))))) (G11 O O O O) O (Rt (BL ((!r7.2)||((decide (r7.1.Size≠20))&&(decide (r7.1.Size≠40))))) O (G7 (hK9 (JCc O h (fun h hb=>?_) (fun h hb=>?_)))))
  ·
   refine Jr fun hK10=>(JLh (E1 ([]:List Stowed)) (Hk 4 O O) O (Rt (G0 6) O (G7 (hK10 (Gw (⟨[E1 ([]:List Stowed),G0 6],[],G,O,⟨⟨_,O,.conv (.same O)⟩,⟨_,O,.conv (.same O)⟩,G⟩,O,congrArg (fun r:(List Stowed)×Int=>(.tup [E1 r.1,G0 r.2]:AV)) (Option.some.inj h)⟩))))))
  ·
   refine Jr fun hK11=>(Rt (E1 l) O (JLh (Ed x) (Gd Hw O O O) O (JLh (G0 x.Gb) (Gj Gg O O O) O ?_)))
   obtain⟨r12,hr12,h⟩:=Gf h
   refine JLh (G0 r12) (Gu O (G25 l x.Gb r12 hr12) G86 ⟨O,O,O,O,G⟩) O (JLh (BL (decide (0≤r12))) (Gaf O O O) O (Rt (BL (decide (0≤r12))) O (G7 (hK11 (JCc O h (fun h hb=>?_) (fun h hb=>?_))))))
   ·
    refine Jr fun hK13=>(JLh (E1 ([]:List Stowed)) (Hk 4 O O) O (Rt (G0 96) O (G7 (hK13 (Gw (⟨[E1 ([]:List Stowed),G0 96],[],G,O,⟨⟨_,O,.conv (.same O)⟩,⟨_,O,.conv (.same O)⟩,G⟩,O,congrArg (fun r:(List Stowed)×Int=>(.tup [E1 r.1,G0 r.2]:AV)) (Option.some.inj h)⟩))))))
   ·
    refine Jr fun hK14=>(JLh (.agg (Gr.cs s)) (Gh H3 O O O) O (JLh (.dptr ((Stowed.cs x).drop 1)) (Gd Hq O O O) O (JLh (.agg ((Stowed.cs x).drop 1)) (Gh Qb O O O) O (JLh (.dptr ((Gb.cs r7.1).drop 2)) (Gd Yc O O O) O (JLh (U8 r7.1.Size) (Gj Hy O O O) O ?_)))))
    obtain⟨r15,hr15,h⟩:=Gf h
    refine JLh (BL r15) (Gu O (H4d s x.Slot r7.1.Size r15 hr15) J33 ⟨O,O,O,O,O,O,G⟩) O (JLh (BL (!r15)) (Zs (b:=r15) O O) O (Rt (BL (!r15)) O (G7 (hK14 (JCc O h (fun h hb=>?_) (fun h hb=>?_))))))
    ·
     refine Jr fun hK16=>(JLh (E1 ([]:List Stowed)) (Hk 4 O O) O (Rt (G0 97) O (G7 (hK16 (Gw (⟨[E1 ([]:List Stowed),G0 97],[],G,O,⟨⟨_,O,.conv (.same O)⟩,⟨_,O,.conv (.same O)⟩,G⟩,O,congrArg (fun r:(List Stowed)×Int=>(.tup [E1 r.1,G0 r.2]:AV)) (Option.some.inj h)⟩))))))
    ·
     refine Gs (hK8 ?_)
     refine Jr fun hK17=>(JLh (.agg (Gr.cs s)) (Gh H3 O O O) O (Rt (E2 boxes) O (Rt (E1 l) O (Rt (E0 open_) O (JLh (.agg (Stowed.cs x)) (Gh Qw O O O) O (JLh (.agg [E7 s.Columns,E3 s.Covers,G0 s.Light.Kilos,G0 s.Light.X,G0 s.Light.Y,G0 s.Light.Z,E4 s.Rows,E5 s.Frames,E6 s.Tanks,G0 s.G2.Tolerance,G0 s.G2.Trim,G0 s.G2.List_,G0 s.G2.Stability,E2 boxes,E1 l,E0 open_,G0 x.Gb,G0 x.Slot.G3,G0 x.Slot.Tier,U8 x.Slot.Half]) (Hg (cs:=[E7 s.Columns,E3 s.Covers,G0 s.Light.Kilos,G0 s.Light.X,G0 s.Light.Y,G0 s.Light.Z,E4 s.Rows,E5 s.Frames,E6 s.Tanks,G0 s.G2.Tolerance,G0 s.G2.Trim,G0 s.G2.List_,G0 s.G2.Stability,E2 boxes,E1 l,E0 open_,G0 x.Gb,G0 x.Slot.G3,G0 x.Slot.Tier,U8 x.Slot.Half]) [(0,13),(13,1),(14,1),(15,1),(16,4)] [E7 ([]:List G3),E3 ([]:List G9),G0 0,G0 0,G0 0,G0 0,E4 ([]:List Row),E5 ([]:List Frame),E6 ([]:List Gp),G0 0,G0 0,G0 0,G0 0,E2 ([]:List Gb),E1 ([]:List Stowed),E0 ([]:List Int),G0 0,G0 0,G0 0,U8 0] [.slice none 0 0,.slice none 0 0,.int .i64 0,.int .i64 0,.int .i64 0,.int .i64 0,.slice none 0 0,.slice none 0 0,.slice none 0 0,.int .i64 0,.int .i64 0,.int .i64 0,.int .i64 0,.slice none 0 0,.slice none 0 0,.slice none 0 0,.int .i64 0,.int .i64 0,.int .i64 0,.int .u8 0] J87 Jae ⟨.inr ⟨_,O,O⟩,.inr ⟨_,O,O⟩,.inl O,.inl O,.inl O,.inl O,.inr ⟨_,O,O⟩,.inr ⟨_,O,O⟩,.inr ⟨_,O,O⟩,.inl O,.inl O,.inl O,.inl O,.inr ⟨_,O,O⟩,.inr ⟨_,O,O⟩,.inr ⟨_,O,O⟩,.inl O,.inl O,.inl O,.inl O,G⟩ O O) O (JLh (.ptr 1048 0) (Ht 1048 20 J90 O O) O (Hu (u:=.junk) (Hj (u:=.agg [E7 s.Columns,E3 s.Covers,G0 s.Light.Kilos,G0 s.Light.X,G0 s.Light.Y,G0 s.Light.Z,E4 s.Rows,E5 s.Frames,E6 s.Tanks,G0 s.G2.Tolerance,G0 s.G2.Trim,G0 s.G2.List_,G0 s.G2.Stability,E2 boxes,E1 l,E0 open_,G0 x.Gb,G0 x.Slot.G3,G0 x.Slot.Tier,U8 x.Slot.Half]) (ds:=[E7 s.Columns,E3 s.Covers,G0 s.Light.Kilos,G0 s.Light.X,G0 s.Light.Y,G0 s.Light.Z,E4 s.Rows,E5 s.Frames,E6 s.Tanks,G0 s.G2.Tolerance,G0 s.G2.Trim,G0 s.G2.List_,G0 s.G2.Stability,E2 boxes,E1 l,E0 open_,G0 x.Gb,G0 x.Slot.G3,G0 x.Slot.Tier,U8 x.Slot.Half]) Jb2 O O O O O O O O) (G7 (hK17 ?_))))))))))
     refine Gt [(14,.dptr [E7 s.Columns,E3 s.Covers,G0 s.Light.Kilos,G0 s.Light.X,G0 s.Light.Y,G0 s.Light.Z,E4 s.Rows,E5 s.Frames,E6 s.Tanks,G0 s.G2.Tolerance,G0 s.G2.Trim,G0 s.G2.List_,G0 s.G2.Stability,E2 boxes,E1 l,E0 open_,G0 x.Gb,G0 x.Slot.G3,G0 x.Slot.Tier,U8 x.Slot.Half])] [] 1048 rfl rfl rfl G rfl (by exact⟨.ptr,G⟩) (Js fun hK18=>?_)
     refine Jr fun hK19=>(JLh (.agg [E7 s.Columns,E3 s.Covers,G0 s.Light.Kilos,G0 s.Light.X,G0 s.Light.Y,G0 s.Light.Z,E4 s.Rows,E5 s.Frames,E6 s.Tanks,G0 s.G2.Tolerance,G0 s.G2.Trim,G0 s.G2.List_,G0 s.G2.Stability,E2 boxes,E1 l,E0 open_,G0 x.Gb,G0 x.Slot.G3,G0 x.Slot.Tier,U8 x.Slot.Half]) (Gh Gbe O O O) O (JLh (.bfn 39 [.agg [E7 s.Columns,E3 s.Covers,G0 s.Light.Kilos,G0 s.Light.X,G0 s.Light.Y,G0 s.Light.Z,E4 s.Rows,E5 s.Frames,E6 s.Tanks,G0 s.G2.Tolerance,G0 s.G2.Trim,G0 s.G2.List_,G0 s.G2.Stability,E2 boxes,E1 l,E0 open_,G0 x.Gb,G0 x.Slot.G3,G0 x.Slot.Tier,U8 x.Slot.Half]]) (Ged (cs:=[.agg [E7 s.Columns,E3 s.Covers,G0 s.Light.Kilos,G0 s.Light.X,G0 s.Light.Y,G0 s.Light.Z,E4 s.Rows,E5 s.Frames,E6 s.Tanks,G0 s.G2.Tolerance,G0 s.G2.Trim,G0 s.G2.List_,G0 s.G2.Stability,E2 boxes,E1 l,E0 open_,G0 x.Gb,G0 x.Slot.G3,G0 x.Slot.Tier,U8 x.Slot.Half]]) O O) O (JLh (.agg [E7 s.Columns,E3 s.Covers,G0 s.Light.Kilos,G0 s.Light.X,G0 s.Light.Y,G0 s.Light.Z,E4 s.Rows,E5 s.Frames,E6 s.Tanks,G0 s.G2.Tolerance,G0 s.G2.Trim,G0 s.G2.List_,G0 s.G2.Stability,E2 boxes,E1 l,E0 open_,G0 x.Gb,G0 x.Slot.G3,G0 x.Slot.Tier,U8 x.Slot.Half]) (Gh Gbe O O O) O (JLh (.bfn 40 [.agg [E7 s.Columns,E3 s.Covers,G0 s.Light.Kilos,G0 s.Light.X,G0 s.Light.Y,G0 s.Light.Z,E4 s.Rows,E5 s.Frames,E6 s.Tanks,G0 s.G2.Tolerance,G0 s.G2.Trim,G0 s.G2.List_,G0 s.G2.Stability,E2 boxes,E1 l,E0 open_,G0 x.Gb,G0 x.Slot.G3,G0 x.Slot.Tier,U8 x.Slot.Half]]) (Ged (cs:=[.agg [E7 s.Columns,E3 s.Covers,G0 s.Light.Kilos,G0 s.Light.X,G0 s.Light.Y,G0 s.Light.Z,E4 s.Rows,E5 s.Frames,E6 s.Tanks,G0 s.G2.Tolerance,G0 s.G2.Trim,G0 s.G2.List_,G0 s.G2.Stability,E2 boxes,E1 l,E0 open_,G0 x.Gb,G0 x.Slot.G3,G0 x.Slot.Tier,U8 x.Slot.Half]]) O O) O (JLh (.agg [E7 s.Columns,E3 s.Covers,G0 s.Light.Kilos,G0 s.Light.X,G0 s.Light.Y,G0 s.Light.Z,E4 s.Rows,E5 s.Frames,E6 s.Tanks,G0 s.G2.Tolerance,G0 s.G2.Trim,G0 s.G2.List_,G0 s.G2.Stability,E2 boxes,E1 l,E0 open_,G0 x.Gb,G0 x.Slot.G3,G0 x.Slot.Tier,U8 x.Slot.Half]) (Gh Gbe O O O) O (JLh (.bfn 41 [.agg [E7 s.Columns,E3 s.Covers,G0 s.Light.Kilos,G0 s.Light.X,G0 s.Light.Y,G0 s.Light.Z,E4 s.Rows,E5 s.Frames,E6 s.Tanks,G0 s.G2.Tolerance,G0 s.G2.Trim,G0 s.G2.List_,G0 s.G2.Stability,E2 boxes,E1 l,E0 open_,G0 x.Gb,G0 x.Slot.G3,G0 x.Slot.Tier,U8 x.Slot.Half]]) (Ged (cs:=[.agg [E7 s.Columns,E3 s.Covers,G0 s.Light.Kilos,G0 s.Light.X,G0 s.Light.Y,G0 s.Light.Z,E4 s.Rows,E5 s.Frames,E6 s.Tanks,G0 s.G2.Tolerance,G0 s.G2.Trim,G0 s.G2.List_,G0 s.G2.Stability,E2 boxes,E1 l,E0 open_,G0 x.Gb,G0 x.Slot.G3,G0 x.Slot.Tier,U8 x.Slot.Half]]) O O) O (JLh (.agg [E7 s.Columns,E3 s.Covers,G0 s.Light.Kilos,G0 s.Light.X,G0 s.Light.Y,G0 s.Light.Z,E4 s.Rows,E5 s.Frames,E6 s.Tanks,G0 s.G2.Tolerance,G0 s.G2.Trim,G0 s.G2.List_,G0 s.G2.Stability,E2 boxes,E1 l,E0 open_,G0 x.Gb,G0 x.Slot.G3,G0 x.Slot.Tier,U8 x.Slot.Half]) (Gh Gbe O O O) O (JLh (.bfn 42 [.agg [E7 s.Columns,E3 s.Covers,G0 s.Light.Kilos,G0 s.Light.X,G0 s.Light.Y,G0 s.Light.Z,E4 s.Rows,E5 s.Frames,E6 s.Tanks,G0 s.G2.Tolerance,G0 s.G2.Trim,G0 s.G2.List_,G0 s.G2.Stability,E2 boxes,E1 l,E0 open_,G0 x.Gb,G0 x.Slot.G3,G0 x.Slot.Tier,U8 x.Slot.Half]]) (Ged (cs:=[.agg [E7 s.Columns,E3 s.Covers,G0 s.Light.Kilos,G0 s.Light.X,G0 s.Light.Y,G0 s.Light.Z,E4 s.Rows,E5 s.Frames,E6 s.Tanks,G0 s.G2.Tolerance,G0 s.G2.Trim,G0 s.G2.List_,G0 s.G2.Stability,E2 boxes,E1 l,E0 open_,G0 x.Gb,G0 x.Slot.G3,G0 x.Slot.Tier,U8 x.Slot.Half]]) O O) O (JLh (.agg [.bfn 39 [.agg [E7 s.Columns,E3 s.Covers,G0 s.Light.Kilos,G0 s.Light.X,G0 s.Light.Y,G0 s.Light.Z,E4 s.Rows,E5 s.Frames,E6 s.Tanks,G0 s.G2.Tolerance,G0 s.G2.Trim,G0 s.G2.List_,G0 s.G2.Stability,E2 boxes,E1 l,E0 open_,G0 x.Gb,G0 x.Slot.G3,G0 x.Slot.Tier,U8 x.Slot.Half]],.bfn 40 [.agg [E7 s.Columns,E3 s.Covers,G0 s.Light.Kilos,G0 s.Light.X,G0 s.Light.Y,G0 s.Light.Z,E4 s.Rows,E5 s.Frames,E6 s.Tanks,G0 s.G2.Tolerance,G0 s.G2.Trim,G0 s.G2.List_,G0 s.G2.Stability,E2 boxes,E1 l,E0 open_,G0 x.Gb,G0 x.Slot.G3,G0 x.Slot.Tier,U8 x.Slot.Half]],.bfn 41 [.agg [E7 s.Columns,E3 s.Covers,G0 s.Light.Kilos,G0 s.Light.X,G0 s.Light.Y,G0 s.Light.Z,E4 s.Rows,E5 s.Frames,E6 s.Tanks,G0 s.G2.Tolerance,G0 s.G2.Trim,G0 s.G2.List_,G0 s.G2.Stability,E2 boxes,E1 l,E0 open_,G0 x.Gb,G0 x.Slot.G3,G0 x.Slot.Tier,U8 x.Slot.Half]],.bfn 42 [.agg [E7 s.Columns,E3 s.Covers,G0 s.Light.Kilos,G0 s.Light.X,G0 s.Light.Y,G0 s.Light.Z,E4 s.Rows,E5 s.Frames,E6 s.Tanks,G0 s.G2.Tolerance,G0 s.G2.Trim,G0 s.G2.List_,G0 s.G2.Stability,E2 boxes,E1 l,E0 open_,G0 x.Gb,G0 x.Slot.G3,G0 x.Slot.Tier,U8 x.Slot.Half]]]) (H8f (cs:=[.bfn 39 [.agg [E7 s.Columns,E3 s.Covers,G0 s.Light.Kilos,G0 s.Light.X,G0 s.Light.Y,G0 s.Light.Z,E4 s.Rows,E5 s.Frames,E6 s.Tanks,G0 s.G2.Tolerance,G0 s.G2.Trim,G0 s.G2.List_,G0 s.G2.Stability,E2 boxes,E1 l,E0 open_,G0 x.Gb,G0 x.Slot.G3,G0 x.Slot.Tier,U8 x.Slot.Half]],.bfn 40 [.agg [E7 s.Columns,E3 s.Covers,G0 s.Light.Kilos,G0 s.Light.X,G0 s.Light.Y,G0 s.Light.Z,E4 s.Rows,E5 s.Frames,E6 s.Tanks,G0 s.G2.Tolerance,G0 s.G2.Trim,G0 s.G2.List_,G0 s.G2.Stability,E2 boxes,E1 l,E0 open_,G0 x.Gb,G0 x.Slot.G3,G0 x.Slot.Tier,U8 x.Slot.Half]],.bfn 41 [.agg [E7 s.Columns,E3 s.Covers,G0 s.Light.Kilos,G0 s.Light.X,G0 s.Light.Y,G0 s.Light.Z,E4 s.Rows,E5 s.Frames,E6 s.Tanks,G0 s.G2.Tolerance,G0 s.G2.Trim,G0 s.G2.List_,G0 s.G2.Stability,E2 boxes,E1 l,E0 open_,G0 x.Gb,G0 x.Slot.G3,G0 x.Slot.Tier,U8 x.Slot.Half]],.bfn 42 [.agg [E7 s.Columns,E3 s.Covers,G0 s.Light.Kilos,G0 s.Light.X,G0 s.Light.Y,G0 s.Light.Z,E4 s.Rows,E5 s.Frames,E6 s.Tanks,G0 s.G2.Tolerance,G0 s.G2.Trim,G0 s.G2.List_,G0 s.G2.Stability,E2 boxes,E1 l,E0 open_,G0 x.Gb,G0 x.Slot.G3,G0 x.Slot.Tier,U8 x.Slot.Half]]]) [.nilFunc,.nilFunc,.nilFunc,.nilFunc] tf_arr_99 Jad O O) O (Rt (G0 0) O (G7 (hK19 ?_))))))))))))
     refine H1 ?_
     obtain⟨hx60,h⟩:=Ja h
     obtain⟨b60,kx60,hb60,hkx60,h⟩:=upto_in h
     refine J3 (fun i60 (s60:Unit)=>upto b60 kx60 ((4:Int).toNat - i60) i60 s60=some r) (fun i60 s60=>[(14,.dptr [E7 s.Columns,E3 s.Covers,G0 s.Light.Kilos,G0 s.Light.X,G0 s.Light.Y,G0 s.Light.Z,E4 s.Rows,E5 s.Frames,E6 s.Tanks,G0 s.G2.Tolerance,G0 s.G2.Trim,G0 s.G2.List_,G0 s.G2.Stability,E2 boxes,E1 l,E0 open_,G0 x.Gb,G0 x.Slot.G3,G0 x.Slot.Tier,U8 x.Slot.Half]),(71,.agg [.bfn 39 [.agg [E7 s.Columns,E3 s.Covers,G0 s.Light.Kilos,G0 s.Light.X,G0 s.Light.Y,G0 s.Light.Z,E4 s.Rows,E5 s.Frames,E6 s.Tanks,G0 s.G2.Tolerance,G0 s.G2.Trim,G0 s.G2.List_,G0 s.G2.Stability,E2 boxes,E1 l,E0 open_,G0 x.Gb,G0 x.Slot.G3,G0 x.Slot.Tier,U8 x.Slot.Half]],.bfn 40 [.agg [E7 s.Columns,E3 s.Covers,G0 s.Light.Kilos,G0 s.Light.X,G0 s.Light.Y,G0 s.Light.Z,E4 s.Rows,E5 s.Frames,E6 s.Tanks,G0 s.G2.Tolerance,G0 s.G2.Trim,G0 s.G2.List_,G0 s.G2.Stability,E2 boxes,E1 l,E0 open_,G0 x.Gb,G0 x.Slot.G3,G0 x.Slot.Tier,U8 x.Slot.Half]],.bfn 41 [.agg [E7 s.Columns,E3 s.Covers,G0 s.Light.Kilos,G0 s.Light.X,G0 s.Light.Y,G0 s.Light.Z,E4 s.Rows,E5 s.Frames,E6 s.Tanks,G0 s.G2.Tolerance,G0 s.G2.Trim,G0 s.G2.List_,G0 s.G2.Stability,E2 boxes,E1 l,E0 open_,G0 x.Gb,G0 x.Slot.G3,G0 x.Slot.Tier,U8 x.Slot.Half]],.bfn 42 [.agg [E7 s.Columns,E3 s.Covers,G0 s.Light.Kilos,G0 s.Light.X,G0 s.Light.Y,G0 s.Light.Z,E4 s.Rows,E5 s.Frames,E6 s.Tanks,G0 s.G2.Tolerance,G0 s.G2.Trim,G0 s.G2.List_,G0 s.G2.Stability,E2 boxes,E1 l,E0 open_,G0 x.Gb,G0 x.Slot.G3,G0 x.Slot.Tier,U8 x.Slot.Half]]]),(72,Ej i60)]) (fun i60 s60=>[]) (fun i60=>(4:Int).toNat - i60) 0 () h ⟨⟨.same O,.same O,.same O,G⟩,G,O⟩ ?_
     clear h
     intro i60 s60 hi60 K60 e60
     refine Jr fun hK61=>(JLh (BL (decide ((i60:Int) < 4))) (Q0 O O O) O (G7 (hK61 (Js fun hK62=>Gn O (fun hb=>?_) (fun hb=>?_)))))
     ·
      have hk60:=J4e hb
      obtain⟨nx60,hn60,h⟩:=J14 hi60 hk60
      replace h:=app3 hb60 h
      refine Gs (hK62 ?_)
      obtain⟨kj63,hkj63,h⟩:=Yo h
      refine R9 (fun j63:Unit=>kj63 j63=some r) (fun j63=>[(14,.dptr [E7 s.Columns,E3 s.Covers,G0 s.Light.Kilos,G0 s.Light.X,G0 s.Light.Y,G0 s.Light.Z,E4 s.Rows,E5 s.Frames,E6 s.Tanks,G0 s.G2.Tolerance,G0 s.G2.Trim,G0 s.G2.List_,G0 s.G2.Stability,E2 boxes,E1 l,E0 open_,G0 x.Gb,G0 x.Slot.G3,G0 x.Slot.Tier,U8 x.Slot.Half]),(71,.agg [.bfn 39 [.agg [E7 s.Columns,E3 s.Covers,G0 s.Light.Kilos,G0 s.Light.X,G0 s.Light.Y,G0 s.Light.Z,E4 s.Rows,E5 s.Frames,E6 s.Tanks,G0 s.G2.Tolerance,G0 s.G2.Trim,G0 s.G2.List_,G0 s.G2.Stability,E2 boxes,E1 l,E0 open_,G0 x.Gb,G0 x.Slot.G3,G0 x.Slot.Tier,U8 x.Slot.Half]],.bfn 40 [.agg [E7 s.Columns,E3 s.Covers,G0 s.Light.Kilos,G0 s.Light.X,G0 s.Light.Y,G0 s.Light.Z,E4 s.Rows,E5 s.Frames,E6 s.Tanks,G0 s.G2.Tolerance,G0 s.G2.Trim,G0 s.G2.List_,G0 s.G2.Stability,E2 boxes,E1 l,E0 open_,G0 x.Gb,G0 x.Slot.G3,G0 x.Slot.Tier,U8 x.Slot.Half]],.bfn 41 [.agg [E7 s.Columns,E3 s.Covers,G0 s.Light.Kilos,G0 s.Light.X,G0 s.Light.Y,G0 s.Light.Z,E4 s.Rows,E5 s.Frames,E6 s.Tanks,G0 s.G2.Tolerance,G0 s.G2.Trim,G0 s.G2.List_,G0 s.G2.Stability,E2 boxes,E1 l,E0 open_,G0 x.Gb,G0 x.Slot.G3,G0 x.Slot.Tier,U8 x.Slot.Half]],.bfn 42 [.agg [E7 s.Columns,E3 s.Covers,G0 s.Light.Kilos,G0 s.Light.X,G0 s.Light.Y,G0 s.Light.Z,E4 s.Rows,E5 s.Frames,E6 s.Tanks,G0 s.G2.Tolerance,G0 s.G2.Trim,G0 s.G2.List_,G0 s.G2.Stability,E2 boxes,E1 l,E0 open_,G0 x.Gb,G0 x.Slot.G3,G0 x.Slot.Tier,U8 x.Slot.Half]]]),(72,Ej i60)]) (fun j63=>[]) (fun Kj63 ej63=>?_) ?_
      ·
       refine H1 (Jr fun hK64=>(Rt (Ej i60) O ((Decidable.em ((i60:Int)=0)).elim (fun hq65_0=>?_) (fun hq65_0=>?_))))
       ·
        replace h:=H6 (decide_eq_true hq65_0) h
        refine JLh (.bfn 39 [.agg [E7 s.Columns,E3 s.Covers,G0 s.Light.Kilos,G0 s.Light.X,G0 s.Light.Y,G0 s.Light.Z,E4 s.Rows,E5 s.Frames,E6 s.Tanks,G0 s.G2.Tolerance,G0 s.G2.Trim,G0 s.G2.List_,G0 s.G2.Stability,E2 boxes,E1 l,E0 open_,G0 x.Gb,G0 x.Slot.G3,G0 x.Slot.Tier,U8 x.Slot.Half]]) (H61 (j:=0) H54 O O O hq65_0 O O) O (Rt (Ej i60) O (Rt (.bfn 39 [.agg [E7 s.Columns,E3 s.Covers,G0 s.Light.Kilos,G0 s.Light.X,G0 s.Light.Y,G0 s.Light.Z,E4 s.Rows,E5 s.Frames,E6 s.Tanks,G0 s.G2.Tolerance,G0 s.G2.Trim,G0 s.G2.List_,G0 s.G2.Stability,E2 boxes,E1 l,E0 open_,G0 x.Gb,G0 x.Slot.G3,G0 x.Slot.Tier,U8 x.Slot.Half]]) O (G7 (hK64 ?_))))
        refine Jr fun hK66=>(Rt (.bfn 39 [.agg [E7 s.Columns,E3 s.Covers,G0 s.Light.Kilos,G0 s.Light.X,G0 s.Light.Y,G0 s.Light.Z,E4 s.Rows,E5 s.Frames,E6 s.Tanks,G0 s.G2.Tolerance,G0 s.G2.Trim,G0 s.G2.List_,G0 s.G2.Stability,E2 boxes,E1 l,E0 open_,G0 x.Gb,G0 x.Slot.G3,G0 x.Slot.Tier,U8 x.Slot.Half]]) O ?_)
        obtain⟨r67,hr67,h⟩:=Gf h
        refine JLh (BL r67) (H62 (args:=[]) (firsts:=[.agg [E7 s.Columns,E3 s.Covers,G0 s.Light.Kilos,G0 s.Light.X,G0 s.Light.Y,G0 s.Light.Z,E4 s.Rows,E5 s.Frames,E6 s.Tanks,G0 s.G2.Tolerance,G0 s.G2.Trim,G0 s.G2.List_,G0 s.G2.Stability,E2 boxes,E1 l,E0 open_,G0 x.Gb,G0 x.Slot.G3,G0 x.Slot.Tier,U8 x.Slot.Half]]) O O (H2c (He.mk s boxes l open_ x) r67 hr67) Jd3 G O) O (G7 (hK66 (JCc O h (fun h hb=>?_) (fun h hb=>?_))))
        ·
         refine Jr fun hK68=>(Rt (Ej i60) O ?_)
         obtain⟨v69,hv69,h⟩:=Jg h
         refine JLh (G0 v69) (J0 hv69 O O O) O (JLh (E1 ([]:List Stowed)) (Hk 4 O O) O (Rt (G0 v69) O (G7 (hK68 (Gw (⟨[E1 ([]:List Stowed),G0 v69],[],G,O,⟨⟨_,O,.conv (.same O)⟩,⟨_,O,.conv (.same O)⟩,G⟩,O,congrArg (fun r:(List Stowed)×Int=>(.tup [E1 r.1,G0 r.2]:AV)) (Option.some.inj h)⟩))))))
        ·
         refine Gs (ej63 _ _ () h ⟨⟨.same O,.same O,.same O,G⟩,G,O⟩)
       ·
        replace h:=Hh (decide_eq_false hq65_0) h
        refine(Decidable.em ((i60:Int)=1)).elim (fun hq65_1=>?_) (fun hq65_1=>?_)
        ·
         replace h:=H6 (decide_eq_true hq65_1) h
         refine JLh (.bfn 40 [.agg [E7 s.Columns,E3 s.Covers,G0 s.Light.Kilos,G0 s.Light.X,G0 s.Light.Y,G0 s.Light.Z,E4 s.Rows,E5 s.Frames,E6 s.Tanks,G0 s.G2.Tolerance,G0 s.G2.Trim,G0 s.G2.List_,G0 s.G2.Stability,E2 boxes,E1 l,E0 open_,G0 x.Gb,G0 x.Slot.G3,G0 x.Slot.Tier,U8 x.Slot.Half]]) (H61 (j:=1) H54 O O O hq65_1 O O) O (Rt (Ej i60) O (Rt (.bfn 40 [.agg [E7 s.Columns,E3 s.Covers,G0 s.Light.Kilos,G0 s.Light.X,G0 s.Light.Y,G0 s.Light.Z,E4 s.Rows,E5 s.Frames,E6 s.Tanks,G0 s.G2.Tolerance,G0 s.G2.Trim,G0 s.G2.List_,G0 s.G2.Stability,E2 boxes,E1 l,E0 open_,G0 x.Gb,G0 x.Slot.G3,G0 x.Slot.Tier,U8 x.Slot.Half]]) O (G7 (hK64 ?_))))
         refine Jr fun hK70=>(Rt (.bfn 40 [.agg [E7 s.Columns,E3 s.Covers,G0 s.Light.Kilos,G0 s.Light.X,G0 s.Light.Y,G0 s.Light.Z,E4 s.Rows,E5 s.Frames,E6 s.Tanks,G0 s.G2.Tolerance,G0 s.G2.Trim,G0 s.G2.List_,G0 s.G2.Stability,E2 boxes,E1 l,E0 open_,G0 x.Gb,G0 x.Slot.G3,G0 x.Slot.Tier,U8 x.Slot.Half]]) O ?_)
         obtain⟨r71,hr71,h⟩:=Gf h
         refine JLh (BL r71) (H62 (args:=[]) (firsts:=[.agg [E7 s.Columns,E3 s.Covers,G0 s.Light.Kilos,G0 s.Light.X,G0 s.Light.Y,G0 s.Light.Z,E4 s.Rows,E5 s.Frames,E6 s.Tanks,G0 s.G2.Tolerance,G0 s.G2.Trim,G0 s.G2.List_,G0 s.G2.Stability,E2 boxes,E1 l,E0 open_,G0 x.Gb,G0 x.Slot.G3,G0 x.Slot.Tier,U8 x.Slot.Half]]) O O (H4a (He.mk s boxes l open_ x) r71 hr71) Jd2 G O) O (G7 (hK70 (JCc O h (fun h hb=>?_) (fun h hb=>?_))))
         ·
          refine Jr fun hK72=>(Rt (Ej i60) O ?_)
          obtain⟨v73,hv73,h⟩:=Jg h
          refine JLh (G0 v73) (J0 hv73 O O O) O (JLh (E1 ([]:List Stowed)) (Hk 4 O O) O (Rt (G0 v73) O (G7 (hK72 (Gw (⟨[E1 ([]:List Stowed),G0 v73],[],G,O,⟨⟨_,O,.conv (.same O)⟩,⟨_,O,.conv (.same O)⟩,G⟩,O,congrArg (fun r:(List Stowed)×Int=>(.tup [E1 r.1,G0 r.2]:AV)) (Option.some.inj h)⟩))))))
         ·
          refine Gs (ej63 _ _ () h ⟨⟨.same O,.same O,.same O,G⟩,G,O⟩)
        ·
         replace h:=Hh (decide_eq_false hq65_1) h
         refine(Decidable.em ((i60:Int)=2)).elim (fun hq65_2=>?_) (fun hq65_2=>?_)
         ·
          replace h:=H6 (decide_eq_true hq65_2) h
          refine JLh (.bfn 41 [.agg [E7 s.Columns,E3 s.Covers,G0 s.Light.Kilos,G0 s.Light.X,G0 s.Light.Y,G0 s.Light.Z,E4 s.Rows,E5 s.Frames,E6 s.Tanks,G0 s.G2.Tolerance,G0 s.G2.Trim,G0 s.G2.List_,G0 s.G2.Stability,E2 boxes,E1 l,E0 open_,G0 x.Gb,G0 x.Slot.G3,G0 x.Slot.Tier,U8 x.Slot.Half]]) (H61 (j:=2) H54 O O O hq65_2 O O) O (Rt (Ej i60) O (Rt (.bfn 41 [.agg [E7 s.Columns,E3 s.Covers,G0 s.Light.Kilos,G0 s.Light.X,G0 s.Light.Y,G0 s.Light.Z,E4 s.Rows,E5 s.Frames,E6 s.Tanks,G0 s.G2.Tolerance,G0 s.G2.Trim,G0 s.G2.List_,G0 s.G2.Stability,E2 boxes,E1 l,E0 open_,G0 x.Gb,G0 x.Slot.G3,G0 x.Slot.Tier,U8 x.Slot.Half]]) O (G7 (hK64 ?_))))
          refine Jr fun hK74=>(Rt (.bfn 41 [.agg [E7 s.Columns,E3 s.Covers,G0 s.Light.Kilos,G0 s.Light.X,G0 s.Light.Y,G0 s.Light.Z,E4 s.Rows,E5 s.Frames,E6 s.Tanks,G0 s.G2.Tolerance,G0 s.G2.Trim,G0 s.G2.List_,G0 s.G2.Stability,E2 boxes,E1 l,E0 open_,G0 x.Gb,G0 x.Slot.G3,G0 x.Slot.Tier,U8 x.Slot.Half]]) O ?_)
          obtain⟨r75,hr75,h⟩:=Gf h
          refine JLh (BL r75) (H62 (args:=[]) (firsts:=[.agg [E7 s.Columns,E3 s.Covers,G0 s.Light.Kilos,G0 s.Light.X,G0 s.Light.Y,G0 s.Light.Z,E4 s.Rows,E5 s.Frames,E6 s.Tanks,G0 s.G2.Tolerance,G0 s.G2.Trim,G0 s.G2.List_,G0 s.G2.Stability,E2 boxes,E1 l,E0 open_,G0 x.Gb,G0 x.Slot.G3,G0 x.Slot.Tier,U8 x.Slot.Half]]) O O (H22 (He.mk s boxes l open_ x) r75 hr75) Jd1 G O) O (G7 (hK74 (JCc O h (fun h hb=>?_) (fun h hb=>?_))))
          ·
           refine Jr fun hK76=>(Rt (Ej i60) O ?_)
           obtain⟨v77,hv77,h⟩:=Jg h
           refine JLh (G0 v77) (J0 hv77 O O O) O (JLh (E1 ([]:List Stowed)) (Hk 4 O O) O (Rt (G0 v77) O (G7 (hK76 (Gw (⟨[E1 ([]:List Stowed),G0 v77],[],G,O,⟨⟨_,O,.conv (.same O)⟩,⟨_,O,.conv (.same O)⟩,G⟩,O,congrArg (fun r:(List Stowed)×Int=>(.tup [E1 r.1,G0 r.2]:AV)) (Option.some.inj h)⟩))))))
          ·
           refine Gs (ej63 _ _ () h ⟨⟨.same O,.same O,.same O,G⟩,G,O⟩)
         ·
          replace h:=Hh (decide_eq_false hq65_2) h
          refine(Decidable.em ((i60:Int)=3)).elim (fun hq65_3=>?_) (fun hq65_3=>?_)
          ·
           replace h:=H6 (decide_eq_true hq65_3) h
           refine JLh (.bfn 42 [.agg [E7 s.Columns,E3 s.Covers,G0 s.Light.Kilos,G0 s.Light.X,G0 s.Light.Y,G0 s.Light.Z,E4 s.Rows,E5 s.Frames,E6 s.Tanks,G0 s.G2.Tolerance,G0 s.G2.Trim,G0 s.G2.List_,G0 s.G2.Stability,E2 boxes,E1 l,E0 open_,G0 x.Gb,G0 x.Slot.G3,G0 x.Slot.Tier,U8 x.Slot.Half]]) (H61 (j:=3) H54 O O O hq65_3 O O) O (Rt (Ej i60) O (Rt (.bfn 42 [.agg [E7 s.Columns,E3 s.Covers,G0 s.Light.Kilos,G0 s.Light.X,G0 s.Light.Y,G0 s.Light.Z,E4 s.Rows,E5 s.Frames,E6 s.Tanks,G0 s.G2.Tolerance,G0 s.G2.Trim,G0 s.G2.List_,G0 s.G2.Stability,E2 boxes,E1 l,E0 open_,G0 x.Gb,G0 x.Slot.G3,G0 x.Slot.Tier,U8 x.Slot.Half]]) O (G7 (hK64 ?_))))
           refine Jr fun hK78=>(Rt (.bfn 42 [.agg [E7 s.Columns,E3 s.Covers,G0 s.Light.Kilos,G0 s.Light.X,G0 s.Light.Y,G0 s.Light.Z,E4 s.Rows,E5 s.Frames,E6 s.Tanks,G0 s.G2.Tolerance,G0 s.G2.Trim,G0 s.G2.List_,G0 s.G2.Stability,E2 boxes,E1 l,E0 open_,G0 x.Gb,G0 x.Slot.G3,G0 x.Slot.Tier,U8 x.Slot.Half]]) O ?_)
           obtain⟨r79,hr79,h⟩:=Gf h
           refine JLh (BL r79) (H62 (args:=[]) (firsts:=[.agg [E7 s.Columns,E3 s.Covers,G0 s.Light.Kilos,G0 s.Light.X,G0 s.Light.Y,G0 s.Light.Z,E4 s.Rows,E5 s.Frames,E6 s.Tanks,G0 s.G2.Tolerance,G0 s.G2.Trim,G0 s.G2.List_,G0 s.G2.Stability,E2 boxes,E1 l,E0 open_,G0 x.Gb,G0 x.Slot.G3,G0 x.Slot.Tier,U8 x.Slot.Half]]) O O (H2d F (He.mk s boxes l open_ x) r79 hr79) Jd0 G O) O (G7 (hK78 (JCc O h (fun h hb=>?_) (fun h hb=>?_))))
           ·
            refine Jr fun hK80=>(Rt (Ej i60) O ?_)
            obtain⟨v81,hv81,h⟩:=Jg h
            refine JLh (G0 v81) (J0 hv81 O O O) O (JLh (E1 ([]:List Stowed)) (Hk 4 O O) O (Rt (G0 v81) O (G7 (hK80 (Gw (⟨[E1 ([]:List Stowed),G0 v81],[],G,O,⟨⟨_,O,.conv (.same O)⟩,⟨_,O,.conv (.same O)⟩,G⟩,O,congrArg (fun r:(List Stowed)×Int=>(.tup [E1 r.1,G0 r.2]:AV)) (Option.some.inj h)⟩))))))
           ·
            refine Gs (ej63 _ _ () h ⟨⟨.same O,.same O,.same O,G⟩,G,O⟩)
          ·
           replace h:=Hh (decide_eq_false hq65_3) h
           cases h
      ·intro j63 h
       replace h:=app1 hkj63 h
       refine G4 (JLh (G0 ((i60+1:Nat):Int)) (J0 (Hv hk60 (Hba hx60)) O O O) O (Rt (G0 ((i60+1:Nat):Int)) O (G7 (e60 _ _ (i60+1) () (app1 hn60 h) (by omega) ⟨⟨.same rfl,.same rfl,.same rfl,G⟩,G,rfl⟩))))
     ·
      have h:=app1 hkx60 (J15 hi60 (H17 hb))
      refine J8 (hK18 (Jr fun hK82=>(JLh (.agg [E7 s.Columns,E3 s.Covers,G0 s.Light.Kilos,G0 s.Light.X,G0 s.Light.Y,G0 s.Light.Z,E4 s.Rows,E5 s.Frames,E6 s.Tanks,G0 s.G2.Tolerance,G0 s.G2.Trim,G0 s.G2.List_,G0 s.G2.Stability,E2 boxes,E1 l,E0 open_,G0 x.Gb,G0 x.Slot.G3,G0 x.Slot.Tier,U8 x.Slot.Half]) (Gh Gbe O O O) O ?_)))
      obtain⟨r83,hr83,h⟩:=Gf h
      refine JLh (E1 r83) (Gu O (G6a F (He.mk s boxes l open_ x) r83 hr83) J32 ⟨O,O,G⟩) O (Rt (E1 r83) O (Rt (G0 0) O (G7 (hK82 (Gw (⟨[E1 r83,G0 0],[],G,O,⟨⟨_,O,.conv (.same O)⟩,⟨_,O,.conv (.same O)⟩,G⟩,O,congrArg (fun r:(List Stowed)×Int=>(.tup [E1 r.1,G0 r.2]:AV)) (Option.some.inj h)⟩))))))

def Je (a:List Int) (b:List Int):Option Bool:=
 bif decide ((a.length:Int)≠(b.length:Int)) then
 (some false)
 else
 (each (fun y24 i24 (s24:Unit) nx24=>
   Y9 b (i24:Int) fun y29=>
   bif decide (y24≠y29) then
   (some false)
   else
   (nx24 ()))
  (fun(s24:Unit)=>
   some true) a 0 ())
theorem Qj (a:List Int) (b:List Int) (r:Bool) (h:Je a b=some r):Pure Ek 12 [E0 a,E0 b] (·=BL r):=by
 unfold Je at h
 refine H7 [.tmp 4] Tryz.func12 O O (Jr fun hK1=>(Rt (BL false) O (G7 (hK1 (Js fun hK2=>Jr fun hK3=>(Rt (E0 a) O (JLl Gq O O O fun hm7=>(Rt (E0 b) O (JLl Gq O O O fun hm9=>(JLh (BL (decide ((a.length:Int)≠(b.length:Int)))) (G0f O O O) O (G7 (hK3 (JCc O h (fun h hb=>?_) (fun h hb=>?_))))))))))))))
 ·
  refine Jr fun hK4=>(Rt (BL false) O (G7 (hK4 (Gw (fin1 BL h)))))
 ·
  refine Gs (hK2 (Js fun hK5=>Jr fun hK6=>(Rt (G0 0) O (G7 (hK6 (H1 ?_))))))
  obtain⟨b24,kx24,hb24,hkx24,h⟩:=Jj h
  refine J3 (fun i24 (s24:Unit)=>each b24 kx24 (List.drop i24 a) i24 s24=some r) (fun i24 s24=>[(0,E0 a),(1,E0 b),(5,Ej i24)]) (fun i24 s24=>[]) (fun i24=>a.length - i24) 0 () h ⟨⟨.same O,.same O,.same O,G⟩,G,O⟩ ?_
  clear h
  intro i24 s24 hi24 K24 e24
  refine Js fun hK25=>Jr fun hK26=>(Rt (Ej i24) O (Rt (E0 a) O (JLl Gq O O O fun hm13=>(JLh (BL (decide ((i24:Int) < (a.length:Int)))) (Q0 O O O) O (G7 (hK26 (Gn O (fun hb=>?_) (fun hb=>?_))))))))
  ·
   have hk24:=Qd hb
   obtain⟨y24,nx24,hy24,hn24,h⟩:=J4 hi24 hk24
   replace h:=Zz hb24 h
   refine Gs (hK25 (Js fun hK27=>H1 (Js fun hK28=>?_)))
   obtain⟨m30,y29,hm30,hy29,h⟩:=R3 h
   refine JC_d0 Jx (by kernel_rfl) (Dq (E0 a) (G5 O O) O (Dq (Ej i24) (G5 O O) O (Dq (.dptr [G0 y24]) (Ha (f:=G0) (xs:=a) (y:=y24) O O O Gq hy24 O) O (Dq (G0 y24) (Gj Gg O O O) O (Dq (E0 b) (G5 O O) O (Dq (Ej i24) (G5 O O) O (Dq (.dptr [G0 y29]) (Ha (f:=G0) (xs:=b) (y:=y29) O O O Gq hy29 hm30) O (Dq (G0 y29) (Gj Gg O O O) O (Dq (BL (decide (y24≠y29))) (G0f O O O) O (Dnil (hK28 (JCc O h (fun h hb=>?_) (fun h hb=>?_)))))))))))))
   ·
    refine Jr fun hK31=>(Rt (BL false) O (G7 (hK31 (Gw (fin1 BL h)))))
   ·
    refine Gs (hK27 (G4 (Rt (Ej i24) O (JLh (G0 ((i24+1:Nat):Int)) (J0 (Hv hk24 hm13) O O O) O (Rt (G0 ((i24+1:Nat):Int)) O (G7 (e24 _ _ (i24+1) () (app1 hn24 h) (by omega) ⟨⟨.same rfl,.same rfl,.same rfl,G⟩,G,rfl⟩)))))))
  ·
   have h:=app1 hkx24 (J5 hi24 (Hi hb))
   refine J8 (hK5 (Jr fun hK32=>(Rt (BL true) O (G7 (hK32 (Gw (fin1 BL h)))))))

def Qi (s:Gr) (boxes:List Gb) (l:List Stowed) (open_:List Int) (id_:Int):Option Int:=
 bnd (Jq s boxes l open_) fun r4=>
 bif (!r4) then
 (some 2)
 else
 (bnd (Yh l id_) fun r7=>
  bif decide (r7.2≠0) then
  (some r7.2)
  else
  (bif decide (0 < (r7.1.length:Int)) then
   (some 90)
   else
   (bnd (Ro l id_) fun r15=>
    Y9 l r15 fun y16=>
    bnd (G46 s y16.Slot.G3) fun r18=>
    bnd (bif decide (0≤r18) then Qs open_ r18 else some default) fun r20=>
    bif ((decide (0≤r18))&&(!r20)) then
    (some 91)
    else
    (some 0))))
theorem Z7 (s:Gr) (boxes:List Gb) (l:List Stowed) (open_:List Int) (id_:Int) (r:Int) (h:Qi s boxes l open_ id_=some r):Pure Ek 15 [.agg (Gr.cs s),E2 boxes,E1 l,E0 open_,G0 id_] (·=G0 r):=by
 unfold Qi at h
 refine H7 [.tmp 10] Tryz.func15 O O (Jr fun hK1=>(JLh (.ptr 1044 0) (Q9 (cs:=(Gr.cs s)) 1044 O O O O O) O (Rt (G0 0) O (G7 (hK1 (Gt [(1,E2 boxes),(2,E1 l),(3,E0 open_),(4,G0 id_),(5,Ec s)] [] 1044 rfl rfl rfl G rfl (by repeat' (first | exact .ptr | constructor)) ?_))))))
 refine Js fun hK2=>Jr fun hK3=>(JLh (.agg (Gr.cs s)) (Gh H3 O O O) O (Rt (E2 boxes) O (Rt (E1 l) O (Rt (E0 open_) O ?_))))
 obtain⟨r4,hr4,h⟩:=Gf h
 refine JLh (BL r4) (Gu O (G0b s boxes l open_ r4 hr4) Gc7 ⟨O,O,O,O,O,O,O,O,G⟩) O (JLh (BL (!r4)) (Zs (b:=r4) O O) O (G7 (hK3 (JCc O h (fun h hb=>?_) (fun h hb=>?_)))))
 ·
  refine Jr fun hK5=>(Rt (G0 2) O (G7 (hK5 (Gw (fin1 G0 h)))))
 ·
  refine Gs (hK2 (Jr fun hK6=>(Rt (E1 l) O (Rt (G0 id_) O ?_))))
  obtain⟨r7,hr7,h⟩:=Gf h
  refine JLh (.tup [E0 r7.1,G0 r7.2]) (Gu O (G7c l id_ r7 hr7) H12 ⟨O,O,O,O,G⟩) O (Rt (.tup [E0 r7.1,G0 r7.2]) O (JLh (E0 r7.1) (Gv O O O) O (JLh (G0 r7.2) (Gv O O O) O (Rt (E0 r7.1) O (Rt (G0 r7.2) O (G7 (hK6 (Js fun hK8=>H1 (Jr fun hK9=>(Rt (G0 r7.2) O (JLh (BL (decide (r7.2≠0))) (G0f O O O) O (Rt (BL (decide (r7.2≠0))) O (G7 (hK9 (JCc O h (fun h hb=>?_) (fun h hb=>?_))))))))))))))))
  ·
   refine Jr fun hK10=>(Rt (G0 r7.2) O (Rt (G0 r7.2) O (G7 (hK10 (Gw (fin1 G0 h))))))
  ·
   refine Jr fun hK11=>(Rt (E0 r7.1) O (JLl Gq O O O fun hm32=>(JLh (BL (decide (0 < (r7.1.length:Int)))) (Gae O O O) O (Rt (BL (decide (0 < (r7.1.length:Int)))) O (G7 (hK11 (JCc O h (fun h hb=>?_) (fun h hb=>?_))))))))
   ·
    refine Jr fun hK12=>(Rt (G0 90) O (G7 (hK12 (Gw (fin1 G0 h)))))
   ·
    refine Gs (hK8 (Js fun hK13=>Js fun hK14=>?_))
    obtain⟨r15,hr15,h⟩:=Gf h
    obtain⟨m17,y16,hm17,hy16,h⟩:=R3 h
    obtain⟨r18,hr18,h⟩:=Gf h
    refine JC_d0 Jx (by kernel_rfl) (Dq (.agg (Gr.cs s)) (Gh H3 O O O) O (Dq (E1 l) (G5 O O) O (Dq (E1 l) (G5 O O) O (Dq (G0 id_) (G5 O O) O (Dq (G0 r15) (Gu (args:=[E1 l,G0 id_]) O (G25 l id_ r15 hr15) G86 ⟨O,O,O,O,G⟩) O (Dq (Ed y16) (Ha (f:=Stowed.av) (xs:=l) (y:=y16) O O O Gx hy16 hm17) O (Dq (.dptr ((Stowed.cs y16).drop 1)) (Gd Hq O O O) O (Dq (.dptr ((Stowed.cs y16).drop 1)) (Gd Jc O O O) O (Dq (G0 y16.Slot.G3) (Gj Gg O O O) O (Dq (G0 r18) (Gu (args:=[.agg (Gr.cs s),G0 y16.Slot.G3]) O (H4b s y16.Slot.G3 r18 hr18) J37 ⟨O,O,O,O,G⟩) O (Dq (G0 r18) (G8 O O) O (Dnil ?_))))))))))))
    refine hK14 (Jr fun hK19=>(Rt (G0 r18) O (JLh (BL (decide (0≤r18))) (Gaf O O O) O (Rt (BL (decide (0≤r18))) O (JLo (E0 open_) [] O .sct G (fun hc=>G5 O O) O (JLo (G0 r18) [] O .sct G (fun hc=>G5 O O) O ?_))))))
    obtain⟨r20,hr20,h⟩:=Gf h
    refine JLo (BL r20) [47,48] O .sct ⟨Ua,Ua,G⟩ (fun hc=>Gu (args:=[E0 open_,G0 r18]) O (G0d open_ r18 r20 (H6 hc hr20)) H77 ⟨O,O,O,O,G⟩) O (JLo (BL (!r20)) [49] O .sct ⟨Ua,G⟩ (fun hc=>Zs (b:=r20) O O) O (JLh (BL ((decide (0≤r18))&&(!r20))) (Q1 O O O O) O (G7 (hK19 (JCc O h (fun h hb=>?_) (fun h hb=>?_))))))
    ·
     refine Jr fun hK21=>(Rt (G0 91) O (G7 (hK21 (Gw (fin1 G0 h)))))
    ·
     refine Gs (hK13 (Jr fun hK22=>(Rt (G0 0) O (G7 (hK22 (Gw (fin1 G0 h)))))))
end
end Go.Proofs.YtbljcmgjmieffaaGreat
