/-
 Models of functions of the program,and that they return what the models say.
-/
import Derived.Test.YtkfhfoljfbjknaaGreatProg
import Derived.Test.YtkfhfoljfbjknaaGreatSortM
import Derived.Test.YtkfhfoljfbjknaaGreatSortLay
import Derived.Test.YtkfhfoljfbjknaaGreatRel
import Derived.Test.YtkfhfoljfbjknaaGreatLit0
set_option maxRecDepth 100000
set_option linter.unusedVariables false
set_option linter.unusedSimpArgs false
namespace Go.Proofs.YtkfhfoljfbjknaaGreat
open Go.RowKit
noncomputable section
structure Hg where
 n:Int
 low:Int
 high:Int
 deriving DecidableEq,Inhabited
def Hg.cs (x:Hg):List AV:=[G0 x.n,G0 x.low,G0 x.high]
def Hg.av (x:Hg):AV:=.agg x.cs
structure G5 where
 Bay:Int
 Row:Int
 Deck:Bool
 Tiers:Int
 Height:Int
 Kilos20:Int
 Kilos40:Int
 Lash:Int
 Plugs:List Int
 X:Int
 Y:Int
 Z:Int
 deriving DecidableEq,Inhabited
def G5.cs (x:G5):List AV:=[G0 x.Bay,G0 x.Row,BL x.Deck,G0 x.Tiers,G0 x.Height,G0 x.Kilos20,G0 x.Kilos40,G0 x.Lash,E1 x.Plugs,G0 x.X,G0 x.Y,G0 x.Z]
def G5.av (x:G5):AV:=.agg x.cs
abbrev Ei (x:G5):AV:=.dptr (G5.cs x)
abbrev E4:=LS 12 G5.av
structure Ga where
 Bay:Int
 Rows:List Int
 deriving DecidableEq,Inhabited
def Ga.cs (x:Ga):List AV:=[G0 x.Bay,E1 x.Rows]
def Ga.av (x:Ga):AV:=.agg x.cs
abbrev E6:=LS 2 Ga.av
structure Light where
 Kilos:Int
 X:Int
 Y:Int
 Z:Int
 deriving DecidableEq,Inhabited
def Light.cs (x:Light):List AV:=[G0 x.Kilos,G0 x.X,G0 x.Y,G0 x.Z]
def Light.av (x:Light):AV:=.agg x.cs
structure Row where
 Draught:Int
 Kilos:Int
 Buoy:Int
 Metacentre:Int
 Turn:Int
 deriving DecidableEq,Inhabited
def Row.cs (x:Row):List AV:=[G0 x.Draught,G0 x.Kilos,G0 x.Buoy,G0 x.Metacentre,G0 x.Turn]
def Row.av (x:Row):AV:=.agg x.cs
abbrev E7:=LS 5 Row.av
structure Frame where
 X:Int
 Light:Int
 Share:Int
 Shear:Int
 Bend:Int
 deriving DecidableEq,Inhabited
def Frame.cs (x:Frame):List AV:=[G0 x.X,G0 x.Light,G0 x.Share,G0 x.Shear,G0 x.Bend]
def Frame.av (x:Frame):AV:=.agg x.cs
abbrev E8:=LS 5 Frame.av
structure Gq where
 Kilos:Int
 X:Int
 Y:Int
 Z:Int
 Surface:Int
 Steps:List Int
 deriving DecidableEq,Inhabited
def Gq.cs (x:Gq):List AV:=[G0 x.Kilos,G0 x.X,G0 x.Y,G0 x.Z,G0 x.Surface,E1 x.Steps]
def Gq.av (x:Gq):AV:=.agg x.cs
abbrev E9:=LS 6 Gq.av
structure G4 where
 Tolerance:Int
 Trim:Int
 List_:Int
 Stability:Int
 deriving DecidableEq,Inhabited
def G4.cs (x:G4):List AV:=[G0 x.Tolerance,G0 x.Trim,G0 x.List_,G0 x.Stability]
def G4.av (x:G4):AV:=.agg x.cs
structure Gz where
 Columns:List G5
 Covers:List Ga
 Light:Light
 Rows:List Row
 Frames:List Frame
 Tanks:List Gq
 G4:G4
 deriving DecidableEq,Inhabited
def Gz.cs (x:Gz):List AV:=[E4 x.Columns,E6 x.Covers,G0 x.Light.Kilos,G0 x.Light.X,G0 x.Light.Y,G0 x.Light.Z,E7 x.Rows,E8 x.Frames,E9 x.Tanks,G0 x.G4.Tolerance,G0 x.G4.Trim,G0 x.G4.List_,G0 x.G4.Stability]
def Gz.av (x:Gz):AV:=.agg x.cs
abbrev Ee (x:Gz):AV:=.dptr (Gz.cs x)
structure H5 where
 e0:Int
 e1:Int
 e2:Int
 deriving DecidableEq,Inhabited
def H5.cs (x:H5):List AV:=[G0 x.e0,G0 x.e1,G0 x.e2]
def H5.av (x:H5):AV:=.agg x.cs
def H5.ks (x:H5):List Value:=[.int .i64 x.e0,.int .i64 x.e1,.int .i64 x.e2]
def H5.kv (x:H5):Value:=.agg x.ks.toArray
structure Slot where
 G5:Int
 Tier:Int
 Half:Int
 deriving DecidableEq,Inhabited
def Slot.cs (x:Slot):List AV:=[G0 x.G5,G0 x.Tier,U8 x.Half]
def Slot.av (x:Slot):AV:=.agg x.cs
abbrev Eg (x:Slot):AV:=.dptr (Slot.cs x)
abbrev E5:=LS 3 Slot.av
structure G2 where
 Gp:Int
 Slot:Slot
 deriving DecidableEq,Inhabited
def G2.cs (x:G2):List AV:=[G0 x.Gp,G0 x.Slot.G5,G0 x.Slot.Tier,U8 x.Slot.Half]
def G2.av (x:G2):AV:=.agg x.cs
abbrev Ef (x:G2):AV:=.dptr (G2.cs x)
abbrev E0:=LS 4 G2.av
structure Plan where
 States:List (List G2)
 Water:List (List Int)
 deriving DecidableEq,Inhabited
def Plan.cs (x:Plan):List AV:=[LS 1 (E0) x.States,LS 1 (E1) x.Water]
def Plan.av (x:Plan):AV:=.agg x.cs
namespace XAF
theorem tq_138 (a b:H5):eqAt Tryz.prog 4 138 [.int .i64 a.e0,.int .i64 a.e1,.int .i64 a.e2] [.int .i64 b.e0,.int .i64 b.e1,.int .i64 b.e2]=some (decide (a=b)):=by
 refine(show _=some ((a.e0==b.e0)&&((a.e1==b.e1)&&((a.e2==b.e2)&&true))) by kernel_rfl).trans (congrArg some ?_)
 rw [Bool.eq_iff_iff]
 simp only [Bool.and_eq_true,beq_iff_eq,decide_eq_true_eq,Bool.and_true]
 constructor
 ·intro h; obtain⟨_,_,_⟩:=a; obtain⟨_,_,_⟩:=b; simp_all
 ·intro h; subst h; simp
theorem tf_agg_169:aggB Tryz.prog 169 3=true:=by kernel_rfl
theorem Ya:aggB Tryz.prog 70 12=true:=by kernel_rfl
theorem tf_agg_74:aggB Tryz.prog 74 2=true:=by kernel_rfl
theorem tf_arr_138:arrB Tryz.prog 138 3 1=true:=by kernel_rfl
theorem tf_call_56:Hb Tryz.prog 56=true:=by kernel_rfl
theorem tf_call_69:Hb Tryz.prog 69=true:=by kernel_rfl
theorem tf_call_82:Hb Tryz.prog 82=true:=by kernel_rfl
theorem tf_field_169_0:Jh Tryz.prog 169 0 0=true:=by kernel_rfl
theorem tf_field_169_1:Jh Tryz.prog 169 1 1=true:=by kernel_rfl
theorem tf_field_169_2:Jh Tryz.prog 169 2 2=true:=by kernel_rfl
theorem J6:Jh Tryz.prog 35 0 0=true:=by kernel_rfl
theorem Qs:Jh Tryz.prog 35 1 1=true:=by kernel_rfl
theorem Qy:Jh Tryz.prog 41 0 0=true:=by kernel_rfl
theorem R1:Jh Tryz.prog 70 0 0=true:=by kernel_rfl
theorem Y2:Jh Tryz.prog 70 1 1=true:=by kernel_rfl
theorem tf_field_70_10:Jh Tryz.prog 70 10 10=true:=by kernel_rfl
theorem tf_field_70_11:Jh Tryz.prog 70 11 11=true:=by kernel_rfl
theorem Rb:Jh Tryz.prog 70 2 2=true:=by kernel_rfl
theorem tf_field_70_3:Jh Tryz.prog 70 3 3=true:=by kernel_rfl
theorem tf_field_70_4:Jh Tryz.prog 70 4 4=true:=by kernel_rfl
theorem tf_field_70_5:Jh Tryz.prog 70 5 5=true:=by kernel_rfl
theorem tf_field_70_6:Jh Tryz.prog 70 6 6=true:=by kernel_rfl
theorem tf_field_70_7:Jh Tryz.prog 70 7 7=true:=by kernel_rfl
theorem tf_field_70_8:Jh Tryz.prog 70 8 8=true:=by kernel_rfl
theorem tf_field_70_9:Jh Tryz.prog 70 9 9=true:=by kernel_rfl
theorem Y8:Jh Tryz.prog 74 0 0=true:=by kernel_rfl
theorem Yf:Jh Tryz.prog 74 1 1=true:=by kernel_rfl
theorem Yn:mapB Tryz.prog 137 138 3=true:=by kernel_rfl
theorem Q5:Tryz.prog.follows .mixedOrders=true:=by kernel_rfl
theorem Qw:placesOf Tryz.prog 169=some [(0,1),(1,1),(2,1)]:=by kernel_rfl
theorem tf_places_57:placesOf Tryz.prog 57=some [(0,1),(1,1),(2,1)]:=by kernel_rfl
theorem Jd:scalarB Tryz.prog 25=true:=by kernel_rfl
theorem Ra:scalarB Tryz.prog 26=true:=by kernel_rfl
theorem Gb:scalarB Tryz.prog 3=true:=by kernel_rfl
theorem Qk:scalarB Tryz.prog 38=true:=by kernel_rfl
theorem Qj:scalarB Tryz.prog 4=true:=by kernel_rfl
theorem Hx:scalarB Tryz.prog 5=true:=by kernel_rfl
theorem Qc:scalarB Tryz.prog 50=true:=by kernel_rfl
theorem Qt:scalarB Tryz.prog 52=true:=by kernel_rfl
theorem tf_size_169:sizeB Tryz.prog 169 3=true:=by kernel_rfl
theorem Ym:sizeB Tryz.prog 70 12=true:=by kernel_rfl
theorem tf_size_74:sizeB Tryz.prog 74 2=true:=by kernel_rfl
theorem Yc:sliceB Tryz.prog 151 5 1=true:=by kernel_rfl
theorem tf_slice_167:sliceB Tryz.prog 167 169 3=true:=by kernel_rfl
theorem J7:sliceB Tryz.prog 25 70 12=true:=by kernel_rfl
theorem Qq:sliceB Tryz.prog 26 74 2=true:=by kernel_rfl
theorem Ja:sliceB Tryz.prog 38 50 1=true:=by kernel_rfl
theorem Gy:sliceB Tryz.prog 52 3 1=true:=by kernel_rfl
theorem tf_zero_138:(Tryz.prog.info? 138).bind (fun i=>i.zero.map Value.cells)=some (List.toArray [.int .i64 0,.int .i64 0,.int .i64 0]):=by kernel_rfl
theorem Rc:(Tryz.prog.info? 169).bind (fun i=>i.zero.map Value.cells)=some (List.toArray [.int .i64 0,.int .i64 0,.int .i64 0]):=by kernel_rfl
theorem tf_zero_57:(Tryz.prog.info? 57).bind (fun i=>i.zero.map Value.cells)=some (List.toArray [.int .i64 0,.int .i64 0,.int .u8 0]):=by kernel_rfl
theorem tf_zsize_169:zsizeB Tryz.prog 169 3=true:=by kernel_rfl
theorem tf_zsize_5:zsizeB Tryz.prog 5 1=true:=by kernel_rfl
theorem Rn:zsizeB Tryz.prog 70 12=true:=by kernel_rfl
theorem tf_zsize_74:zsizeB Tryz.prog 74 2=true:=by kernel_rfl
theorem Rw:(Tryz.prog.info? 3).bind (·.zero)=some (.int .i64 0):=by kernel_rfl
theorem tk_138:KeyL Tryz.prog 138 H5.kv:=KeyL.of_eq H5.ks (by kernel_rfl) (fun a b h=>by simp only [H5.ks,List.cons.injEq,Value.int.injEq,Value.bool.injEq,Value.string.injEq,true_and,and_true] at h; obtain⟨_,_,_⟩:=a; obtain⟨_,_,_⟩:=b; simp_all) 4 (by decide) (fun a b=>tq_138 a b) (fun a=>by kernel_rfl) (fun a=>by simp [Instr.sameBits,H5.ks])
end XAF
open XAF

def M_ship_right_1 (l:List Hg):Option Bool:=
 each (fun y18 i18 (s18:Unit) nx18=>
  bif ((decide (y18.n < y18.low))||(decide (y18.high < y18.n))) then
  (some false)
  else
  (nx18 ()))
 (fun(s18:Unit)=>
  some true) l 0 ()
theorem M_ship_right_1_w (l:List Hg) (r:Bool) (h:M_ship_right_1 l=some r):Pure Tryz.prog 82 [LS 3 Hg.av l] (·=BL r):=by
 unfold M_ship_right_1 at h
 refine H9 [.tmp 2] Tryz.func82 O O ?_
 refine G6 fun K1 hK1=>G3 ?_
 refine JLg (BL false) (G9 O O) ?_
 refine G8 (hK1 _ _ ?_)
 refine G6 (fun K2 hK2=>?_)
 refine G6 fun K3 hK3=>G3 ?_
 refine JLg (LS 3 Hg.av l) (G7 O O) ?_
 refine Hs (f:=Hg.av) (xs:=l) tf_slice_167 O O (fun hm6=>?_) O O O
 refine JLg (G0 0) (G7 O O) ?_
 refine G8 (hK3 _ _ ?_)
 refine Gg ?_
 obtain⟨b18,kx18,hb18,hkx18,h⟩:=Hu h
 refine H7 (fun i18 (s18:Unit)=>each b18 kx18 (List.drop i18 l) i18 s18=some r) (fun i18 s18=>[(5,LS 3 Hg.av l),(6,Em l.length),(7,Em i18)]) (fun i18 s18=>[]) (fun i18=>l.length - i18) 0 () h ⟨⟨.same O,.same O,.same O,G⟩,G,O⟩ ?_
 clear h
 intro i18 s18 hi18 K18 e18
 refine G6 fun K19 hK19=>G3 ?_
 refine JLg (BL (decide ((i18:Int) < (l.length:Int)))) (Hy O O O) ?_
 refine G8 (hK19 _ _ ?_)
 refine G6 (fun K20 hK20=>?_)
 refine Gh O (fun hb=>?_) (fun hb=>?_)
 ·
  have hk18:=J9 hb
  obtain⟨y18,nx18,hy18,hn18,h⟩:=Hn hi18 hk18
  replace h:=app4 hb18 h
  refine Gj ?_
  refine hK20 _ _ ?_
  refine G6 (fun K21 hK21=>?_)
  refine Gg ?_
  refine G6 fun K22 hK22=>G3 ?_
  refine JLg (.dptr [G0 y18.n,G0 y18.low,G0 y18.high]) (H0 (f:=Hg.av) (xs:=l) (y:=y18) O O O tf_slice_167 hy18 O) ?_
  refine JLg (.agg [G0 y18.n,G0 y18.low,G0 y18.high]) (Gi tf_agg_169 O O O) ?_
  refine JLg (.ptr 1165 0) (Hi 1165 3 tf_zsize_169 O O) ?_
  refine Hj (u:=.junk) (H2 (u:=.agg [G0 y18.n,G0 y18.low,G0 y18.high]) (ds:=[G0 y18.n,G0 y18.low,G0 y18.high]) tf_size_169 O O O O O O O O) ?_
  refine G8 (hK22 _ _ ?_)
  refine Gk [(4,.dptr [G0 y18.n,G0 y18.low,G0 y18.high]),(5,LS 3 Hg.av l),(6,Em l.length),(7,Em i18)] [] 1165 rfl rfl rfl G rfl (by repeat' (first | exact .ptr | constructor)) ?_
  refine G6 fun K23 hK23=>G3 ?_
  refine JLg (.dptr [G0 y18.n,G0 y18.low,G0 y18.high]) (Gc tf_field_169_0 O O O) ?_
  refine JLg (G0 y18.n) (Gf Gb O O O) ?_
  refine JLg (.dptr [G0 y18.low,G0 y18.high]) (Gc tf_field_169_1 O O O) ?_
  refine JLg (G0 y18.low) (Gf Gb O O O) ?_
  refine JLg (BL (decide (y18.n < y18.low))) (Hy O O O) ?_
  refine JLg (BL (decide (y18.n < y18.low))) (G7 O O) ?_
  refine Gd (u:=.dptr [G0 y18.n,G0 y18.low,G0 y18.high]) [] O O O .scf G (fun hc=>Gc tf_field_169_0 O O O) ?_
  refine Gd (u:=G0 y18.n) [(17,.dptr [G0 y18.n,G0 y18.low,G0 y18.high])] O O O .scf ⟨.all id,G⟩ (fun hc=>Gf Gb O O O) ?_
  refine Gd (u:=.dptr [G0 y18.high]) [] O O O .scf G (fun hc=>Gc tf_field_169_2 O O O) ?_
  refine Gd (u:=G0 y18.high) [(19,.dptr [G0 y18.high])] O O O .scf ⟨.all id,G⟩ (fun hc=>Gf Gb O O O) ?_
  refine Gd (u:=BL (decide (y18.high < y18.n))) [(18,G0 y18.n),(20,G0 y18.high)] O O O .scf ⟨.all id,.all id,G⟩ (fun hc=>Yd O O O) ?_
  refine JLg (BL ((decide (y18.n < y18.low))||(decide (y18.high < y18.n)))) (Y4 O O O O) ?_
  refine G8 (hK23 _ _ ?_)
  refine Gh O (fun hb=>?_) (fun hb=>?_)
  ·
   replace h:=Gv hb h
   refine G6 fun K24 hK24=>G3 ?_
   refine JLg (BL false) (G9 O O) ?_
   refine G8 (hK24 _ _ ?_)
   refine Gu ?_
   exact⟨[BL false],[],G,O,⟨⟨_,O,.conv (.same O)⟩,G⟩,O,congrArg (fun r:Bool=>(BL r:AV)) (Option.some.inj h)⟩
  ·
   replace h:=Hp hb h
   refine Gj ?_
   refine hK21 _ _ ?_
   refine G3 ?_
   refine JLg (G0 ((i18+1:Nat):Int)) (Ht (Hc hk18 hm6) O O O) ?_
   refine JLg (G0 ((i18+1:Nat):Int)) (G7 O O) ?_
   refine G8 ?_
   exact e18 _ _ (i18+1) () (app1 hn18 h) (by omega) ⟨⟨.same rfl,.same rfl,.same rfl,G⟩,G,rfl⟩
 ·
  have h:=app1 hkx18 (Ho hi18 (H3 hb))
  refine Hk ?_
  refine hK2 _ _ ?_
  refine G6 fun K25 hK25=>G3 ?_
  refine JLg (BL true) (G9 O O) ?_
  refine G8 (hK25 _ _ ?_)
  refine Gu ?_
  exact⟨[BL true],[],G,O,⟨⟨_,O,.conv (.same O)⟩,G⟩,O,congrArg (fun r:Bool=>(BL r:AV)) (Option.some.inj h)⟩

def M_ship_right (c:G5):Option Bool:=
 each (fun y27 i27 (s27:Unit) nx27=>
  chk (c.Tiers - 1) fun v33=>
  bnd (M_ship_right_1 [(Hg.mk y27 0 v33)]) fun r34=>
  bnd (bif ((!(!r34))&&(decide (0 < (i27:Int)))) then chk ((i27:Int) - 1) some else some 0) fun v35=>
  bnd (bif ((!(!r34))&&(decide (0 < (i27:Int)))) then Jy c.Plugs v35 some else some default) fun y36=>
  bif ((!r34)||((decide (0 < (i27:Int)))&&(decide (y27≤y36)))) then
  (some false)
  else
  (nx27 ()))
 (fun(s27:Unit)=>
  bnd (M_ship_right_1 [(Hg.mk c.Bay 0 39),(Hg.mk c.Row 0 30),(Hg.mk c.Tiers 1 10),(Hg.mk c.Height 0 40000),(Hg.mk c.Kilos20 0 500000000),(Hg.mk c.Kilos40 0 500000000),(Hg.mk c.Lash 0 1000000000000),(Hg.mk c.X (-500000) 500000),(Hg.mk c.Y (-500000) 500000),(Hg.mk c.Z (-500000) 500000)]) fun r39=>
  some r39) c.Plugs 0 ()
theorem M_ship_right_w (c:G5) (r:Bool) (h:M_ship_right c=some r):Pure Tryz.prog 56 [.agg (G5.cs c)] (·=BL r):=by
 unfold M_ship_right at h
 refine H9 [.tmp 2] Tryz.func56 O O ?_
 refine G6 fun K1 hK1=>G3 ?_
 refine JLg (.ptr 1143 0) (Q1 (u:=.agg (G5.cs c)) (cs:=(G5.cs c)) 1143 O O O O O) ?_
 refine JLg (BL false) (G9 O O) ?_
 refine G8 (hK1 _ _ ?_)
 refine Gk [(1,Ei c)] [] 1143 rfl rfl rfl G rfl (by exact⟨.ptr,G⟩) ?_
 refine G6 fun K2 hK2=>G3 ?_
 refine JLg (.fn 82 []) (G9 O O) ?_
 refine G8 (hK2 _ _ ?_)
 refine G6 (fun K3 hK3=>?_)
 refine G6 fun K4 hK4=>G3 ?_
 refine JLg (.dptr [E1 c.Plugs,G0 c.X,G0 c.Y,G0 c.Z]) (Gc tf_field_70_8 O O O) ?_
 refine JLg (E1 c.Plugs) (Gf Qt O O O) ?_
 refine Hs (f:=G0) (xs:=c.Plugs) Gy O O (fun hm8=>?_) O O O
 refine JLg (G0 0) (G7 O O) ?_
 refine G8 (hK4 _ _ ?_)
 refine Gg ?_
 obtain⟨b27,kx27,hb27,hkx27,h⟩:=Hu h
 refine H7 (fun i27 (s27:Unit)=>each b27 kx27 (List.drop i27 c.Plugs) i27 s27=some r) (fun i27 s27=>[(1,Ei c),(3,.fn 82 []),(7,E1 c.Plugs),(8,Em c.Plugs.length),(9,Em i27)]) (fun i27 s27=>[]) (fun i27=>c.Plugs.length - i27) 0 () h ⟨(by repeat' constructor),G,rfl⟩ ?_
 clear h
 intro i27 s27 hi27 K27 e27
 refine G6 fun K28 hK28=>G3 ?_
 refine JLg (BL (decide ((i27:Int) < (c.Plugs.length:Int)))) (Hy O O O) ?_
 refine G8 (hK28 _ _ ?_)
 refine G6 (fun K29 hK29=>?_)
 refine Gh O (fun hb=>?_) (fun hb=>?_)
 ·
  have hk27:=J9 hb
  obtain⟨y27,nx27,hy27,hn27,h⟩:=Hn hi27 hk27
  replace h:=app4 hb27 h
  refine Gj ?_
  refine hK29 _ _ ?_
  refine G6 (fun K30 hK30=>?_)
  refine Gg ?_
  refine G6 fun K31 hK31=>G3 ?_
  refine JLg (Em i27) (G7 O O) ?_
  refine JLg (.dptr [G0 y27]) (H0 (f:=G0) (xs:=c.Plugs) (y:=y27) O O O Gy hy27 O) ?_
  refine JLg (G0 y27) (Gf Gb O O O) ?_
  refine JLg (Em i27) (G9 O O) ?_
  refine JLg (G0 y27) (G9 O O) ?_
  refine G8 (hK31 _ _ ?_)
  refine G6 fun K32 hK32=>G3 ?_
  refine JLg (.fn 82 []) (G7 O O) ?_
  refine JLg (G0 y27) (G7 O O) ?_
  refine JLg (.dptr [G0 c.Tiers,G0 c.Height,G0 c.Kilos20,G0 c.Kilos40,G0 c.Lash,E1 c.Plugs,G0 c.X,G0 c.Y,G0 c.Z]) (Gc tf_field_70_3 O O O) ?_
  refine JLg (G0 c.Tiers) (Gf Gb O O O) ?_
  obtain⟨v33,hv33,h⟩:=Hm h
  refine JLg (G0 v33) (Rz hv33 O O O) ?_
  refine JLg (.agg [G0 y27,G0 0,G0 v33]) (J4 (cs:=[G0 y27,G0 0,G0 v33]) [(0,1),(1,1),(2,1)] [G0 0,G0 0,G0 0] [.int .i64 0,.int .i64 0,.int .i64 0] Qw Rc ⟨.inl O,.inl O,.inl O,G⟩ O O) ?_
  refine JLg (LS 3 Hg.av [(Hg.mk y27 0 v33)]) (Hd (xs:=[.agg [G0 y27,G0 0,G0 v33]]) O ⟨O,O,G⟩ tf_slice_167 tf_zsize_169 O O O O) ?_
  obtain⟨r34,hr34,h⟩:=Ge h
  refine JLg (BL r34) (Rk (args:=[LS 3 Hg.av [(Hg.mk y27 0 v33)]]) (caps:=[]) O O (M_ship_right_1_w [(Hg.mk y27 0 v33)] r34 hr34) tf_call_82 ⟨O,O,G⟩ O) ?_
  refine JLg (BL (!r34)) (Rj (b:=r34) O O) ?_
  refine JLg (BL (!r34)) (G7 O O) ?_
  refine Gd (u:=Em i27) [] O O O .scf G (fun hc=>G7 O O) ?_
  refine Gd (u:=BL (decide (0 < (i27:Int)))) [(24,Em i27)] O O O .scf ⟨.all id,G⟩ (fun hc=>Yd O O O) ?_
  refine Gd (u:=BL (decide (0 < (i27:Int)))) [(25,BL (decide (0 < (i27:Int))))] O O O .scf ⟨.all id,G⟩ (fun hc=>G7 O O) ?_
  refine Gd (u:=G0 y27) [] O O O .optt G (fun hc=>G7 O O) ?_
  refine Gd (u:=.dptr [E1 c.Plugs,G0 c.X,G0 c.Y,G0 c.Z]) [] O O O .optt G (fun hc=>Gc tf_field_70_8 O O O) ?_
  refine Gd (u:=E1 c.Plugs) [(28,.dptr [E1 c.Plugs,G0 c.X,G0 c.Y,G0 c.Z])] O O O .optt ⟨.all id,G⟩ (fun hc=>Gf Qt O O O) ?_
  refine Gd (u:=Em i27) [] O O O .optt G (fun hc=>G7 O O) ?_
  obtain⟨v35,hv35,h⟩:=Ge h
  refine Gd (u:=G0 v35) [(30,Em i27)] O O O .optt ⟨.all id,G⟩ (fun hc=>Rz (chk_some (Gv hc hv35)) O O O) ?_
  obtain⟨y36,hy36,h⟩:=Ge h
  refine Gd (u:=.dptr [G0 y36]) [(29,E1 c.Plugs),(31,G0 v35)] O O O .optt ⟨.all id,.all id,G⟩ (fun hc=>(match Rv (Gv hc hy36) with | ⟨_,hm_,hy_⟩=>H0 (f:=G0) (xs:=c.Plugs) (y:=y36) O O O Gy hy_ hm_)) ?_
  refine Gd (u:=G0 y36) [(32,.dptr [G0 y36])] O O O .optt ⟨.all id,G⟩ (fun hc=>Gf Gb O O O) ?_
  refine Gd (u:=BL (decide (y27≤y36))) [(27,G0 y27),(33,G0 y36)] O O O .optt ⟨.all id,.all id,G⟩ (fun hc=>A_leq O O O) ?_
  refine Gd (u:=BL ((decide (0 < (i27:Int)))&&(decide (y27≤y36)))) [(26,BL (decide (0 < (i27:Int)))),(34,_)] O O O .scf ⟨.all id,.part,G⟩ (fun hc=>Qr O O O O) ?_
  refine JLg (BL ((!r34)||((decide (0 < (i27:Int)))&&(decide (y27≤y36))))) (Y4 O O O O) ?_
  refine G8 (hK32 _ _ ?_)
  refine Gh O (fun hb=>?_) (fun hb=>?_)
  ·
   replace h:=Gv hb h
   refine G6 fun K37 hK37=>G3 ?_
   refine JLg (BL false) (G9 O O) ?_
   refine G8 (hK37 _ _ ?_)
   refine Gu ?_
   exact⟨[BL false],[],G,O,⟨⟨_,O,.conv (.same O)⟩,G⟩,O,congrArg (fun r:Bool=>(BL r:AV)) (Option.some.inj h)⟩
  ·
   replace h:=Hp hb h
   refine Gj ?_
   refine hK30 _ _ ?_
   refine G3 ?_
   refine JLg (G0 ((i27+1:Nat):Int)) (Ht (Hc hk27 hm8) O O O) ?_
   refine JLg (G0 ((i27+1:Nat):Int)) (G7 O O) ?_
   refine G8 ?_
   exact e27 _ _ (i27+1) () (app1 hn27 h) (by omega) ⟨(by repeat' constructor),G,rfl⟩
 ·
  have h:=app1 hkx27 (Ho hi27 (H3 hb))
  refine Hk ?_
  refine hK3 _ _ ?_
  refine G6 fun K38 hK38=>G3 ?_
  refine JLg (.fn 82 []) (G7 O O) ?_
  refine JLg (Ei c) (Gc R1 O O O) ?_
  refine JLg (G0 c.Bay) (Gf Gb O O O) ?_
  refine JLg (.agg [G0 c.Bay,G0 0,G0 39]) (J4 (cs:=[G0 c.Bay,G0 0,G0 39]) [(0,1),(1,1),(2,1)] [G0 0,G0 0,G0 0] [.int .i64 0,.int .i64 0,.int .i64 0] Qw Rc ⟨.inl O,.inl O,.inl O,G⟩ O O) ?_
  refine JLg (.dptr [G0 c.Row,BL c.Deck,G0 c.Tiers,G0 c.Height,G0 c.Kilos20,G0 c.Kilos40,G0 c.Lash,E1 c.Plugs,G0 c.X,G0 c.Y,G0 c.Z]) (Gc Y2 O O O) ?_
  refine JLg (G0 c.Row) (Gf Gb O O O) ?_
  refine JLg (.agg [G0 c.Row,G0 0,G0 30]) (J4 (cs:=[G0 c.Row,G0 0,G0 30]) [(0,1),(1,1),(2,1)] [G0 0,G0 0,G0 0] [.int .i64 0,.int .i64 0,.int .i64 0] Qw Rc ⟨.inl O,.inl O,.inl O,G⟩ O O) ?_
  refine JLg (.dptr [G0 c.Tiers,G0 c.Height,G0 c.Kilos20,G0 c.Kilos40,G0 c.Lash,E1 c.Plugs,G0 c.X,G0 c.Y,G0 c.Z]) (Gc tf_field_70_3 O O O) ?_
  refine JLg (G0 c.Tiers) (Gf Gb O O O) ?_
  refine JLg (.agg [G0 c.Tiers,G0 1,G0 10]) (J4 (cs:=[G0 c.Tiers,G0 1,G0 10]) [(0,1),(1,1),(2,1)] [G0 0,G0 0,G0 0] [.int .i64 0,.int .i64 0,.int .i64 0] Qw Rc ⟨.inl O,.inl O,.inl O,G⟩ O O) ?_
  refine JLg (.dptr [G0 c.Height,G0 c.Kilos20,G0 c.Kilos40,G0 c.Lash,E1 c.Plugs,G0 c.X,G0 c.Y,G0 c.Z]) (Gc tf_field_70_4 O O O) ?_
  refine JLg (G0 c.Height) (Gf Gb O O O) ?_
  refine JLg (.agg [G0 c.Height,G0 0,G0 40000]) (J4 (cs:=[G0 c.Height,G0 0,G0 40000]) [(0,1),(1,1),(2,1)] [G0 0,G0 0,G0 0] [.int .i64 0,.int .i64 0,.int .i64 0] Qw Rc ⟨.inl O,.inl O,.inl O,G⟩ O O) ?_
  refine JLg (.dptr [G0 c.Kilos20,G0 c.Kilos40,G0 c.Lash,E1 c.Plugs,G0 c.X,G0 c.Y,G0 c.Z]) (Gc tf_field_70_5 O O O) ?_
  refine JLg (G0 c.Kilos20) (Gf Gb O O O) ?_
  refine JLg (.agg [G0 c.Kilos20,G0 0,G0 500000000]) (J4 (cs:=[G0 c.Kilos20,G0 0,G0 500000000]) [(0,1),(1,1),(2,1)] [G0 0,G0 0,G0 0] [.int .i64 0,.int .i64 0,.int .i64 0] Qw Rc ⟨.inl O,.inl O,.inl O,G⟩ O O) ?_
  refine JLg (.dptr [G0 c.Kilos40,G0 c.Lash,E1 c.Plugs,G0 c.X,G0 c.Y,G0 c.Z]) (Gc tf_field_70_6 O O O) ?_
  refine JLg (G0 c.Kilos40) (Gf Gb O O O) ?_
  refine JLg (.agg [G0 c.Kilos40,G0 0,G0 500000000]) (J4 (cs:=[G0 c.Kilos40,G0 0,G0 500000000]) [(0,1),(1,1),(2,1)] [G0 0,G0 0,G0 0] [.int .i64 0,.int .i64 0,.int .i64 0] Qw Rc ⟨.inl O,.inl O,.inl O,G⟩ O O) ?_
  refine JLg (.dptr [G0 c.Lash,E1 c.Plugs,G0 c.X,G0 c.Y,G0 c.Z]) (Gc tf_field_70_7 O O O) ?_
  refine JLg (G0 c.Lash) (Gf Gb O O O) ?_
  refine JLg (.agg [G0 c.Lash,G0 0,G0 1000000000000]) (J4 (cs:=[G0 c.Lash,G0 0,G0 1000000000000]) [(0,1),(1,1),(2,1)] [G0 0,G0 0,G0 0] [.int .i64 0,.int .i64 0,.int .i64 0] Qw Rc ⟨.inl O,.inl O,.inl O,G⟩ O O) ?_
  refine JLg (.dptr [G0 c.X,G0 c.Y,G0 c.Z]) (Gc tf_field_70_9 O O O) ?_
  refine JLg (G0 c.X) (Gf Gb O O O) ?_
  refine JLg (.agg [G0 c.X,G0 (-500000),G0 500000]) (J4 (cs:=[G0 c.X,G0 (-500000),G0 500000]) [(0,1),(1,1),(2,1)] [G0 0,G0 0,G0 0] [.int .i64 0,.int .i64 0,.int .i64 0] Qw Rc ⟨.inl O,.inl O,.inl O,G⟩ O O) ?_
  refine JLg (.dptr [G0 c.Y,G0 c.Z]) (Gc tf_field_70_10 O O O) ?_
  refine JLg (G0 c.Y) (Gf Gb O O O) ?_
  refine JLg (.agg [G0 c.Y,G0 (-500000),G0 500000]) (J4 (cs:=[G0 c.Y,G0 (-500000),G0 500000]) [(0,1),(1,1),(2,1)] [G0 0,G0 0,G0 0] [.int .i64 0,.int .i64 0,.int .i64 0] Qw Rc ⟨.inl O,.inl O,.inl O,G⟩ O O) ?_
  refine JLg (.dptr [G0 c.Z]) (Gc tf_field_70_11 O O O) ?_
  refine JLg (G0 c.Z) (Gf Gb O O O) ?_
  refine JLg (.agg [G0 c.Z,G0 (-500000),G0 500000]) (J4 (cs:=[G0 c.Z,G0 (-500000),G0 500000]) [(0,1),(1,1),(2,1)] [G0 0,G0 0,G0 0] [.int .i64 0,.int .i64 0,.int .i64 0] Qw Rc ⟨.inl O,.inl O,.inl O,G⟩ O O) ?_
  refine JLg (LS 3 Hg.av [(Hg.mk c.Bay 0 39),(Hg.mk c.Row 0 30),(Hg.mk c.Tiers 1 10),(Hg.mk c.Height 0 40000),(Hg.mk c.Kilos20 0 500000000),(Hg.mk c.Kilos40 0 500000000),(Hg.mk c.Lash 0 1000000000000),(Hg.mk c.X (-500000) 500000),(Hg.mk c.Y (-500000) 500000),(Hg.mk c.Z (-500000) 500000)]) (Hd (xs:=[.agg [G0 c.Bay,G0 0,G0 39],.agg [G0 c.Row,G0 0,G0 30],.agg [G0 c.Tiers,G0 1,G0 10],.agg [G0 c.Height,G0 0,G0 40000],.agg [G0 c.Kilos20,G0 0,G0 500000000],.agg [G0 c.Kilos40,G0 0,G0 500000000],.agg [G0 c.Lash,G0 0,G0 1000000000000],.agg [G0 c.X,G0 (-500000),G0 500000],.agg [G0 c.Y,G0 (-500000),G0 500000],.agg [G0 c.Z,G0 (-500000),G0 500000]]) O ⟨O,O,O,O,O,O,O,O,O,O,O,O,O,O,O,O,O,O,O,O,G⟩ tf_slice_167 tf_zsize_169 O O O O) ?_
  obtain⟨r39,hr39,h⟩:=Ge h
  refine JLg (BL r39) (Rk (args:=[LS 3 Hg.av [(Hg.mk c.Bay 0 39),(Hg.mk c.Row 0 30),(Hg.mk c.Tiers 1 10),(Hg.mk c.Height 0 40000),(Hg.mk c.Kilos20 0 500000000),(Hg.mk c.Kilos40 0 500000000),(Hg.mk c.Lash 0 1000000000000),(Hg.mk c.X (-500000) 500000),(Hg.mk c.Y (-500000) 500000),(Hg.mk c.Z (-500000) 500000)]]) (caps:=[]) O O (M_ship_right_1_w [(Hg.mk c.Bay 0 39),(Hg.mk c.Row 0 30),(Hg.mk c.Tiers 1 10),(Hg.mk c.Height 0 40000),(Hg.mk c.Kilos20 0 500000000),(Hg.mk c.Kilos40 0 500000000),(Hg.mk c.Lash 0 1000000000000),(Hg.mk c.X (-500000) 500000),(Hg.mk c.Y (-500000) 500000),(Hg.mk c.Z (-500000) 500000)] r39 hr39) tf_call_82 ⟨O,O,G⟩ O) ?_
  refine JLg (BL r39) (G9 O O) ?_
  refine G8 (hK38 _ _ ?_)
  refine Gu ?_
  exact⟨[BL r39],[],G,O,⟨⟨_,O,.conv (.same O)⟩,G⟩,O,congrArg (fun r:Bool=>(BL r:AV)) (Option.some.inj h)⟩

def M_ship_Right (s:Gz) (Rp:Bool→Prop):Option Prop:=
 bif (((decide ((s.Columns.length:Int) < 1))||(decide (200 < (s.Columns.length:Int))))||(decide (40 < (s.Covers.length:Int)))) then
 (some (Rp false))
 else
 (each (fun y68 i68 (s68:(Gr H5 Int)) nx68=>
   jp (fun kj74=>
    bif y68.Deck then
    (kj74 1)
    else
    (kj74 0)) fun(j74:Int)=>
   bnd (some (Gr.get s68 (H5.mk y68.Bay y68.Row j74) 0)) fun v77=>
   chk (v77+1) fun v78=>
   bnd (M_ship_right y68) fun r80=>
   bif (!r80) then
   (some (Rp false))
   else
   (nx68 (Gr.put s68 (H5.mk y68.Bay y68.Row j74) v78)))
  (fun(s68:(Gr H5 Int))=>
   each (fun y84 i84 (s84:(Gr H5 Int)) nx84=>
    bif (((decide (y84.Bay < 0))||(decide (40≤y84.Bay)))||(decide ((y84.Rows.length:Int)=0))) then
    (some (Rp false))
    else
    (each (fun y157 i157 (s157:(Gr H5 Int)) nx157=>
      bnd (bif ((!((decide (y157 < 0))||(decide (30 < y157))))&&(decide (0 < (i157:Int)))) then chk ((i157:Int) - 1) some else some 0) fun v164=>
      bnd (bif ((!((decide (y157 < 0))||(decide (30 < y157))))&&(decide (0 < (i157:Int)))) then Jy y84.Rows v164 some else some default) fun y165=>
      bif (((decide (y157 < 0))||(decide (30 < y157)))||((decide (0 < (i157:Int)))&&(decide (y157≤y165)))) then
      (some (Rp false))
      else
      (bnd (some (Gr.get s157 (H5.mk y84.Bay y157 2) 0)) fun v167=>
       chk (v167+1) fun v168=>
       nx157 (Gr.put s157 (H5.mk y84.Bay y157 2) v168)))
     (fun(s157:(Gr H5 Int))=>
      nx84 s157) y84.Rows 0 s84))
   (fun(s84:(Gr H5 Int))=>
    eachM (fun(x176:H5×Int) (s176:Unit) nx176=>
     bif decide (1 < x176.2) then
     (lft (some (Rp false)))
     else
     (nx176 ()))
    (fun(s176:Unit)=>
     some (Rp true)) (Gr.l s84) ()) s.Covers 0 s68) s.Columns 0 (Gr.empty:Gr H5 Int))
def D_ship_Right (s:Gz):Option Bool:=
 bif (((decide ((s.Columns.length:Int) < 1))||(decide (200 < (s.Columns.length:Int))))||(decide (40 < (s.Covers.length:Int)))) then
 (some (id false))
 else
 (each (fun y68 i68 (s68:(Gr H5 Int)) nx68=>
   jp (fun kj74=>
    bif y68.Deck then
    (kj74 1)
    else
    (kj74 0)) fun(j74:Int)=>
   bnd (some (Gr.get s68 (H5.mk y68.Bay y68.Row j74) 0)) fun v77=>
   chk (v77+1) fun v78=>
   bnd (M_ship_right y68) fun r80=>
   bif (!r80) then
   (some (id false))
   else
   (nx68 (Gr.put s68 (H5.mk y68.Bay y68.Row j74) v78)))
  (fun(s68:(Gr H5 Int))=>
   each (fun y84 i84 (s84:(Gr H5 Int)) nx84=>
    bif (((decide (y84.Bay < 0))||(decide (40≤y84.Bay)))||(decide ((y84.Rows.length:Int)=0))) then
    (some (id false))
    else
    (each (fun y157 i157 (s157:(Gr H5 Int)) nx157=>
      bnd (bif ((!((decide (y157 < 0))||(decide (30 < y157))))&&(decide (0 < (i157:Int)))) then chk ((i157:Int) - 1) some else some 0) fun v164=>
      bnd (bif ((!((decide (y157 < 0))||(decide (30 < y157))))&&(decide (0 < (i157:Int)))) then Jy y84.Rows v164 some else some default) fun y165=>
      bif (((decide (y157 < 0))||(decide (30 < y157)))||((decide (0 < (i157:Int)))&&(decide (y157≤y165)))) then
      (some (id false))
      else
      (bnd (some (Gr.get s157 (H5.mk y84.Bay y157 2) 0)) fun v167=>
       chk (v167+1) fun v168=>
       nx157 (Gr.put s157 (H5.mk y84.Bay y157 2) v168)))
     (fun(s157:(Gr H5 Int))=>
      nx84 s157) y84.Rows 0 s84))
   (fun(s84:(Gr H5 Int))=>
    runM (fun(x176:H5×Int) (s176:Unit) nx176=>
     bif decide (1 < x176.2) then
     (lft (some (id false)))
     else
     (nx176 ()))
    (fun(s176:Unit)=>
     some (id true)) (Gr.l s84) ()) s.Covers 0 s68) s.Columns 0 (Gr.empty:Gr H5 Int))
theorem M_ship_Right_w (s:Gz) (Rp:Bool→Prop) (p:Prop) (h:M_ship_Right s Rp=some p) (hp:p):Pure Tryz.prog 29 [.agg (Gz.cs s)] (fun av=>∃ r,Rp r∧av=BL r):=by
 unfold M_ship_Right at h
 refine H9 [.tmp 2] Tryz.func29 O O ?_
 refine G6 fun K1 hK1=>G3 ?_
 refine JLg (.ptr 1100 0) (Q1 (u:=.agg (Gz.cs s)) (cs:=(Gz.cs s)) 1100 O O O O O) ?_
 refine JLg (BL false) (G9 O O) ?_
 refine G8 (hK1 _ _ ?_)
 refine Gk [(1,Ee s)] [] 1100 rfl rfl rfl G rfl (by exact⟨.ptr,G⟩) ?_
 refine G6 (fun K2 hK2=>?_)
 refine G6 fun K3 hK3=>G3 ?_
 refine JLg (Ee s) (Gc J6 O O O) ?_
 refine JLg (E4 s.Columns) (Gf Jd O O O) ?_
 refine Hs (f:=G5.av) (xs:=s.Columns) J7 O O (fun hm15=>?_) O O O
 refine JLg (BL (decide ((s.Columns.length:Int) < 1))) (Hy O O O) ?_
 refine JLg (BL (decide ((s.Columns.length:Int) < 1))) (G7 O O) ?_
 refine Gd (u:=Ee s) [] O O O .scf G (fun hc=>Gc J6 O O O) ?_
 refine Gd (u:=E4 s.Columns) [(18,Ee s)] O O O .scf ⟨.all id,G⟩ (fun hc=>Gf Jd O O O) ?_
 refine Gd (u:=Em s.Columns.length) [(19,E4 s.Columns)] O O O .scf ⟨.all id,G⟩ (fun hc=>Yz (f:=G5.av) (xs:=s.Columns) J7 O O) ?_
 refine Gd (u:=BL (decide (200 < (s.Columns.length:Int)))) [(20,Em s.Columns.length)] O O O .scf ⟨.all id,G⟩ (fun hc=>Yd O O O) ?_
 refine JLg (BL ((decide ((s.Columns.length:Int) < 1))||(decide (200 < (s.Columns.length:Int))))) (Y4 O O O O) ?_
 refine JLg (BL ((decide ((s.Columns.length:Int) < 1))||(decide (200 < (s.Columns.length:Int))))) (G7 O O) ?_
 refine Gd (u:=.dptr [E6 s.Covers,G0 s.Light.Kilos,G0 s.Light.X,G0 s.Light.Y,G0 s.Light.Z,E7 s.Rows,E8 s.Frames,E9 s.Tanks,G0 s.G4.Tolerance,G0 s.G4.Trim,G0 s.G4.List_,G0 s.G4.Stability]) [] O O O .scf G (fun hc=>Gc Qs O O O) ?_
 refine Gd (u:=E6 s.Covers) [(24,.dptr [E6 s.Covers,G0 s.Light.Kilos,G0 s.Light.X,G0 s.Light.Y,G0 s.Light.Z,E7 s.Rows,E8 s.Frames,E9 s.Tanks,G0 s.G4.Tolerance,G0 s.G4.Trim,G0 s.G4.List_,G0 s.G4.Stability])] O O O .scf ⟨.all id,G⟩ (fun hc=>Gf Ra O O O) ?_
 refine Gd (u:=Em s.Covers.length) [(25,E6 s.Covers)] O O O .scf ⟨.all id,G⟩ (fun hc=>Yz (f:=Ga.av) (xs:=s.Covers) Qq O O) ?_
 refine Gd (u:=BL (decide (40 < (s.Covers.length:Int)))) [(26,Em s.Covers.length)] O O O .scf ⟨.all id,G⟩ (fun hc=>Yd O O O) ?_
 refine JLg (BL (((decide ((s.Columns.length:Int) < 1))||(decide (200 < (s.Columns.length:Int))))||(decide (40 < (s.Covers.length:Int))))) (Y4 O O O O) ?_
 refine G8 (hK3 _ _ ?_)
 refine Gh O (fun hb=>?_) (fun hb=>?_)
 ·
  replace h:=Gv hb h
  refine G6 fun K4 hK4=>G3 ?_
  refine JLg (BL false) (G9 O O) ?_
  refine G8 (hK4 _ _ ?_)
  refine Gu ?_
  exact⟨[BL false],[],G,O,⟨⟨_,O,.conv (.same O)⟩,G⟩,O,false,Eq.mpr (Option.some.inj h) hp,O⟩
 ·
  replace h:=Hp hb h
  refine Gj ?_
  refine hK2 _ _ ?_
  refine G6 fun K5 hK5=>G3 ?_
  refine JLg (.mp 1103) (Rt 1103 H5.kv G0 O O) ?_
  refine JLg (.mp 1103) (G9 O O) ?_
  refine G8 (hK5 _ _ ?_)
  refine G6 (fun K6 hK6=>?_)
  refine G6 fun K7 hK7=>G3 ?_
  refine JLg (Ee s) (Gc J6 O O O) ?_
  refine JLg (E4 s.Columns) (Gf Jd O O O) ?_
  refine Hs (f:=G5.av) (xs:=s.Columns) J7 O O (fun hm32=>?_) O O O
  refine JLg (G0 0) (G7 O O) ?_
  refine G8 (hK7 _ _ ?_)
  refine Gg ?_
  obtain⟨b68,kx68,hb68,hkx68,h⟩:=Hu h
  refine H7 (fun i68 (s68:(Gr H5 Int))=>each b68 kx68 (List.drop i68 s.Columns) i68 s68=some p) (fun i68 s68=>[(1,Ee s),(3,.mp 1103),(31,E4 s.Columns),(32,Em s.Columns.length),(33,Em i68)]) (fun i68 s68=>[(1103,MP 137 H5.kv G0 s68)]) (fun i68=>s.Columns.length - i68) 0 (Gr.empty:Gr H5 Int) h ⟨(by repeat' constructor),⟨⟨_,rfl,.map⟩,G⟩,rfl⟩ ?_
  clear h
  intro i68 s68 hi68 K68 e68
  refine G6 fun K69 hK69=>G3 ?_
  refine JLg (BL (decide ((i68:Int) < (s.Columns.length:Int)))) (Hy O O O) ?_
  refine G8 (hK69 _ _ ?_)
  refine G6 (fun K70 hK70=>?_)
  refine Gh O (fun hb=>?_) (fun hb=>?_)
  ·
   have hk68:=J9 hb
   obtain⟨y68,nx68,hy68,hn68,h⟩:=Hn hi68 hk68
   replace h:=app4 hb68 h
   refine Gj ?_
   refine hK70 _ _ ?_
   refine G6 (fun K71 hK71=>?_)
   refine Gg ?_
   refine G6 fun K72 hK72=>G3 ?_
   refine JLg (Ei y68) (H0 (f:=G5.av) (xs:=s.Columns) (y:=y68) O O O J7 hy68 O) ?_
   refine JLg (.agg (G5.cs y68)) (Gi Ya O O O) ?_
   refine JLg (.ptr 1101 0) (Hi 1101 12 Rn O O) ?_
   refine Hj (u:=.junk) (H2 (u:=.agg (G5.cs y68)) (ds:=(G5.cs y68)) Ym O O O O O O O O) ?_
   refine G8 (hK72 _ _ ?_)
   refine Gk [(1,Ee s),(3,.mp 1103),(5,Ei y68),(31,E4 s.Columns),(32,Em s.Columns.length),(33,Em i68)] [(1103,MP 137 H5.kv G0 s68)] 1101 rfl rfl rfl ⟨⟨_,rfl,.map⟩,G⟩ rfl (by repeat' (first | exact .ptr | constructor)) ?_
   refine G6 fun K73 hK73=>G3 ?_
   refine JLg (G0 0) (G9 O O) ?_
   refine G8 (hK73 _ _ ?_)
   obtain⟨kj74,hkj74,h⟩:=Qd h
   refine Jq (fun j74:Int=>kj74 j74=some p) (fun j74=>[(1,Ee s),(3,.mp 1103),(5,Ei y68),(6,G0 j74),(31,E4 s.Columns),(32,Em s.Columns.length),(33,Em i68)]) (fun j74=>[(1103,MP 137 H5.kv G0 s68)]) (fun Kj74 ej74=>?_) ?_
   ·
    refine G6 fun K75 hK75=>G3 ?_
    refine JLg (.dptr ((G5.cs y68).drop 2)) (Gc Rb O O O) ?_
    refine JLg (BL y68.Deck) (Gf Qj O O O) ?_
    refine G8 (hK75 _ _ ?_)
    refine Gh O (fun hb=>?_) (fun hb=>?_)
    ·
     replace h:=Gv hb h
     refine G3 ?_
     refine JLg (G0 1) (G9 O O) ?_
     refine G8 ?_
     exact ej74 _ _ 1 h ⟨(by repeat' constructor),⟨⟨_,rfl,.map⟩,G⟩,rfl⟩
    ·
     replace h:=Hp hb h
     refine Gj ?_
     exact ej74 _ _ 0 h ⟨(by repeat' constructor),⟨⟨_,rfl,.map⟩,G⟩,rfl⟩
   ·intro j74 h
    replace h:=app1 hkj74 h
    refine G6 (fun K76 hK76=>?_)
    refine R0 (l':=[(1,Ee s),(3,.mp 1103),(5,Ei y68),(6,G0 j74),(31,E4 s.Columns),(32,Em s.Columns.length),(33,Em i68)]) (L':=[(1103,MP 137 H5.kv G0 s68)]) ⟨(by repeat' constructor),⟨⟨_,rfl,.map⟩,G⟩,rfl⟩ ?_
    obtain⟨v77,hv77,h⟩:=Ge h
    obtain⟨v78,hv78,h⟩:=Hm h
    refine Qp [9,11] [0,0,0,0,0,0,0,0,0,0,1,0] [0,0,0,0,0,0,0,1,1,0,1,0] [[(1103,MP 137 H5.kv G0 s68)],((1103,MI 137 H5.kv G0 s68 (H5.mk y68.Bay y68.Row j74) 0)::[(1103,MP 137 H5.kv G0 s68)]),((1103,MP 137 H5.kv G0 (Gr.put s68 (H5.mk y68.Bay y68.Row j74) v78))::((1103,MI 137 H5.kv G0 s68 (H5.mk y68.Bay y68.Row j74) 0)::[(1103,MP 137 H5.kv G0 s68)]))] Q5 (by kernel_rfl) rfl rfl ?_
    refine Gn (u:=.mp 1103) O O ⟨Gs (G7 O O) O,G⟩ ?_
    refine Gn (u:=Ei y68) O O ⟨Gs (Gc R1 O O O) O,G⟩ ?_
    refine Gn (u:=G0 y68.Bay) O O ⟨Gs (Gf Gb O O O) O,G⟩ ?_
    refine Gn (u:=.dptr ((G5.cs y68).drop 1)) O O ⟨Gs (Gc Y2 O O O) O,G⟩ ?_
    refine Gn (u:=G0 y68.Row) O O ⟨Gs (Gf Gb O O O) O,G⟩ ?_
    refine Gn (u:=G0 j74) O O ⟨Gs (G7 O O) O,G⟩ ?_
    refine Gn (u:=.agg [G0 y68.Bay,G0 y68.Row,G0 j74]) O O ⟨Gs (A_buildArr (cs:=[G0 y68.Bay,G0 y68.Row,G0 j74]) [.int .i64 0,.int .i64 0,.int .i64 0] tf_arr_138 tf_zero_138 O O) O,G⟩ ?_
    refine Gn (u:=G0 v77) O O ⟨Gs (((Option.some.inj hv77) ▸ Qv (av:=G0) (m:=s68) (a:=(H5.mk y68.Bay y68.Row j74)) 0 (.int .i64 0) O O O O tk_138 Yn Rw O)) O,Gs (((Option.some.inj hv77) ▸ A_lookupMI (av:=G0) (m:=s68) (a:=(H5.mk y68.Bay y68.Row j74)) 0 (.int .i64 0) O O O O tk_138 Yn Rw O)) O,G⟩ ?_
    refine Gn (u:=G0 v78) O O ⟨Gs (Ht hv78 O O O) O,Gs (Ht hv78 O O O) O,G⟩ ?_
    refine D_w (u:=.tup [.junk,G0 (midx (Gr.l s68) (H5.mk y68.Bay y68.Row j74):Int)]) O O O O (Gs (A_mapEntryM (m:=s68) (a:=(H5.mk y68.Bay y68.Row j74)) 0 (.int .i64 0) O O O O tk_138 Yn Rw O) O) ?_
    refine Gn (u:=G0 (midx (Gr.l s68) (H5.mk y68.Bay y68.Row j74):Int)) O O ⟨Gs (Hq O O O) O,G⟩ ?_
    refine D_w0 (u:=.junk) O O O O (Gs (A_entryStoreM (m:=s68) (a:=(H5.mk y68.Bay y68.Row j74)) (v:=v78) 0 O O O O O O) O) ?_
    refine Ry ?_
    refine hK76 _ _ ?_
    refine G6 fun K79 hK79=>G3 ?_
    refine JLg (.agg (G5.cs y68)) (Gi Ya O O O) ?_
    obtain⟨r80,hr80,h⟩:=Ge h
    refine JLg (BL r80) (H1 (args:=[.agg (G5.cs y68)]) O (M_ship_right_w y68 r80 hr80) tf_call_56 ⟨O,O,G⟩) ?_
    refine JLg (BL (!r80)) (Rj (b:=r80) O O) ?_
    refine G8 (hK79 _ _ ?_)
    refine Gh O (fun hb=>?_) (fun hb=>?_)
    ·
     replace h:=Gv hb h
     refine G6 fun K81 hK81=>G3 ?_
     refine JLg (BL false) (G9 O O) ?_
     refine G8 (hK81 _ _ ?_)
     refine Gu ?_
     exact⟨[BL false],[],G,O,⟨⟨_,O,.conv (.same O)⟩,G⟩,O,false,Eq.mpr (Option.some.inj h) hp,O⟩
    ·
     replace h:=Hp hb h
     refine Gj ?_
     refine hK71 _ _ ?_
     refine G3 ?_
     refine JLg (G0 ((i68+1:Nat):Int)) (Ht (Hc hk68 hm32) O O O) ?_
     refine JLg (G0 ((i68+1:Nat):Int)) (G7 O O) ?_
     refine G8 ?_
     exact e68 _ _ (i68+1) (Gr.put s68 (H5.mk y68.Bay y68.Row j74) v78) (app1 hn68 h) (by omega) ⟨(by repeat' constructor),⟨⟨_,rfl,.map⟩,G⟩,rfl⟩
  ·
   have h:=app1 hkx68 (Ho hi68 (H3 hb))
   refine Hk ?_
   refine hK6 _ _ ?_
   refine G6 (fun K82 hK82=>?_)
   refine G6 fun K83 hK83=>G3 ?_
   refine JLg (.dptr [E6 s.Covers,G0 s.Light.Kilos,G0 s.Light.X,G0 s.Light.Y,G0 s.Light.Z,E7 s.Rows,E8 s.Frames,E9 s.Tanks,G0 s.G4.Tolerance,G0 s.G4.Trim,G0 s.G4.List_,G0 s.G4.Stability]) (Gc Qs O O O) ?_
   refine JLg (E6 s.Covers) (Gf Ra O O O) ?_
   refine Hs (f:=Ga.av) (xs:=s.Covers) Qq O O (fun hm56=>?_) O O O
   refine JLg (G0 0) (G7 O O) ?_
   refine G8 (hK83 _ _ ?_)
   refine Gg ?_
   obtain⟨b84,kx84,hb84,hkx84,h⟩:=Hu h
   refine H7 (fun i84 (s84:(Gr H5 Int))=>each b84 kx84 (List.drop i84 s.Covers) i84 s84=some p) (fun i84 s84=>[(3,.mp 1103),(55,E6 s.Covers),(56,Em s.Covers.length),(57,Em i84)]) (fun i84 s84=>[(1103,MP 137 H5.kv G0 s84)]) (fun i84=>s.Covers.length - i84) 0 s68 h ⟨(by repeat' constructor),⟨⟨_,rfl,.map⟩,G⟩,rfl⟩ ?_
   clear h
   intro i84 s84 hi84 K84 e84
   refine G6 fun K85 hK85=>G3 ?_
   refine JLg (BL (decide ((i84:Int) < (s.Covers.length:Int)))) (Hy O O O) ?_
   refine G8 (hK85 _ _ ?_)
   refine G6 (fun K86 hK86=>?_)
   refine Gh O (fun hb=>?_) (fun hb=>?_)
   ·
    have hk84:=J9 hb
    obtain⟨y84,nx84,hy84,hn84,h⟩:=Hn hi84 hk84
    replace h:=app4 hb84 h
    refine Gj ?_
    refine hK86 _ _ ?_
    refine G6 (fun K87 hK87=>?_)
    refine Gg ?_
    refine G6 fun K88 hK88=>G3 ?_
    refine JLg (.dptr [G0 y84.Bay,E1 y84.Rows]) (H0 (f:=Ga.av) (xs:=s.Covers) (y:=y84) O O O Qq hy84 O) ?_
    refine JLg (.agg [G0 y84.Bay,E1 y84.Rows]) (Gi tf_agg_74 O O O) ?_
    refine JLg (.ptr 1102 0) (Hi 1102 2 tf_zsize_74 O O) ?_
    refine Hj (u:=.junk) (H2 (u:=.agg [G0 y84.Bay,E1 y84.Rows]) (ds:=[G0 y84.Bay,E1 y84.Rows]) tf_size_74 O O O O O O O O) ?_
    refine G8 (hK88 _ _ ?_)
    refine Gk [(3,.mp 1103),(8,.dptr [G0 y84.Bay,E1 y84.Rows]),(55,E6 s.Covers),(56,Em s.Covers.length),(57,Em i84)] [(1103,MP 137 H5.kv G0 s84)] 1102 rfl rfl rfl ⟨⟨_,rfl,.map⟩,G⟩ rfl (by repeat' (first | exact .ptr | constructor)) ?_
    refine G6 (fun K89 hK89=>?_)
    refine G6 fun K90 hK90=>G3 ?_
    refine JLg (.dptr [G0 y84.Bay,E1 y84.Rows]) (Gc Y8 O O O) ?_
    refine JLg (G0 y84.Bay) (Gf Gb O O O) ?_
    refine JLg (BL (decide (y84.Bay < 0))) (Hy O O O) ?_
    refine JLg (BL (decide (y84.Bay < 0))) (G7 O O) ?_
    refine Gd (u:=.dptr [G0 y84.Bay,E1 y84.Rows]) [] O O O .scf G (fun hc=>Gc Y8 O O O) ?_
    refine Gd (u:=G0 y84.Bay) [(65,.dptr [G0 y84.Bay,E1 y84.Rows])] O O O .scf ⟨.all id,G⟩ (fun hc=>Gf Gb O O O) ?_
    refine Gd (u:=BL (decide (40≤y84.Bay))) [(66,G0 y84.Bay)] O O O .scf ⟨.all id,G⟩ (fun hc=>Yu O O O) ?_
    refine JLg (BL ((decide (y84.Bay < 0))||(decide (40≤y84.Bay)))) (Y4 O O O O) ?_
    refine JLg (BL ((decide (y84.Bay < 0))||(decide (40≤y84.Bay)))) (G7 O O) ?_
    refine Gd (u:=.dptr [E1 y84.Rows]) [] O O O .scf G (fun hc=>Gc Yf O O O) ?_
    refine Gd (u:=E1 y84.Rows) [(70,.dptr [E1 y84.Rows])] O O O .scf ⟨.all id,G⟩ (fun hc=>Gf Qt O O O) ?_
    refine Gd (u:=Em y84.Rows.length) [(71,E1 y84.Rows)] O O O .scf ⟨.all id,G⟩ (fun hc=>Yz (f:=G0) (xs:=y84.Rows) Gy O O) ?_
    refine Gd (u:=BL (decide ((y84.Rows.length:Int)=0))) [(72,Em y84.Rows.length)] O O O .scf ⟨.all id,G⟩ (fun hc=>Qb O O O) ?_
    refine JLg (BL (((decide (y84.Bay < 0))||(decide (40≤y84.Bay)))||(decide ((y84.Rows.length:Int)=0)))) (Y4 O O O O) ?_
    refine G8 (hK90 _ _ ?_)
    refine Gh O (fun hb=>?_) (fun hb=>?_)
    ·
     replace h:=Gv hb h
     refine G6 fun K91 hK91=>G3 ?_
     refine JLg (BL false) (G9 O O) ?_
     refine G8 (hK91 _ _ ?_)
     refine Gu ?_
     exact⟨[BL false],[],G,O,⟨⟨_,O,.conv (.same O)⟩,G⟩,O,false,Eq.mpr (Option.some.inj h) hp,O⟩
    ·
     replace h:=Hp hb h
     refine Gj ?_
     refine hK89 _ _ ?_
     refine G6 fun K92 hK92=>G3 ?_
     refine JLg (.dptr [E1 y84.Rows]) (Gc Yf O O O) ?_
     refine JLg (E1 y84.Rows) (Gf Qt O O O) ?_
     refine Hs (f:=G0) (xs:=y84.Rows) Gy O O (fun hm77=>?_) O O O
     refine JLg (G0 0) (G7 O O) ?_
     refine G8 (hK92 _ _ ?_)
     refine Gg ?_
     obtain⟨b157,kx157,hb157,hkx157,h⟩:=Hu h
     refine H7 (fun i157 (s157:(Gr H5 Int))=>each b157 kx157 (List.drop i157 y84.Rows) i157 s157=some p) (fun i157 s157=>[(3,.mp 1103),(8,.dptr [G0 y84.Bay,E1 y84.Rows]),(55,E6 s.Covers),(56,Em s.Covers.length),(57,Em i84),(76,E1 y84.Rows),(77,Em y84.Rows.length),(78,Em i157)]) (fun i157 s157=>[(1103,MP 137 H5.kv G0 s157)]) (fun i157=>y84.Rows.length - i157) 0 s84 h ⟨(by repeat' constructor),⟨⟨_,rfl,.map⟩,G⟩,rfl⟩ ?_
     clear h
     intro i157 s157 hi157 K157 e157
     refine G6 fun K158 hK158=>G3 ?_
     refine JLg (BL (decide ((i157:Int) < (y84.Rows.length:Int)))) (Hy O O O) ?_
     refine G8 (hK158 _ _ ?_)
     refine G6 (fun K159 hK159=>?_)
     refine Gh O (fun hb=>?_) (fun hb=>?_)
     ·
      have hk157:=J9 hb
      obtain⟨y157,nx157,hy157,hn157,h⟩:=Hn hi157 hk157
      replace h:=app4 hb157 h
      refine Gj ?_
      refine hK159 _ _ ?_
      refine G6 (fun K160 hK160=>?_)
      refine Gg ?_
      refine G6 fun K161 hK161=>G3 ?_
      refine JLg (Em i157) (G7 O O) ?_
      refine JLg (.dptr [G0 y157]) (H0 (f:=G0) (xs:=y84.Rows) (y:=y157) O O O Gy hy157 O) ?_
      refine JLg (G0 y157) (Gf Gb O O O) ?_
      refine JLg (Em i157) (G9 O O) ?_
      refine JLg (G0 y157) (G9 O O) ?_
      refine G8 (hK161 _ _ ?_)
      refine G6 (fun K162 hK162=>?_)
      refine G6 fun K163 hK163=>G3 ?_
      refine JLg (G0 y157) (G7 O O) ?_
      refine JLg (BL (decide (y157 < 0))) (Hy O O O) ?_
      refine JLg (BL (decide (y157 < 0))) (G7 O O) ?_
      refine Gd (u:=G0 y157) [] O O O .scf G (fun hc=>G7 O O) ?_
      refine Gd (u:=BL (decide (30 < y157))) [(86,G0 y157)] O O O .scf ⟨.all id,G⟩ (fun hc=>Yd O O O) ?_
      refine JLg (BL ((decide (y157 < 0))||(decide (30 < y157)))) (Y4 O O O O) ?_
      refine JLg (BL ((decide (y157 < 0))||(decide (30 < y157)))) (G7 O O) ?_
      refine Gd (u:=Em i157) [] O O O .scf G (fun hc=>G7 O O) ?_
      refine Gd (u:=BL (decide (0 < (i157:Int)))) [(90,Em i157)] O O O .scf ⟨.all id,G⟩ (fun hc=>Yd O O O) ?_
      refine Gd (u:=BL (decide (0 < (i157:Int)))) [(91,BL (decide (0 < (i157:Int))))] O O O .scf ⟨.all id,G⟩ (fun hc=>G7 O O) ?_
      refine Gd (u:=G0 y157) [] O O O .optt G (fun hc=>G7 O O) ?_
      refine Gd (u:=.dptr [E1 y84.Rows]) [] O O O .optt G (fun hc=>Gc Yf O O O) ?_
      refine Gd (u:=E1 y84.Rows) [(94,.dptr [E1 y84.Rows])] O O O .optt ⟨.all id,G⟩ (fun hc=>Gf Qt O O O) ?_
      refine Gd (u:=Em i157) [] O O O .optt G (fun hc=>G7 O O) ?_
      obtain⟨v164,hv164,h⟩:=Ge h
      refine Gd (u:=G0 v164) [(96,Em i157)] O O O .optt ⟨.all id,G⟩ (fun hc=>Rz (chk_some (Gv hc hv164)) O O O) ?_
      obtain⟨y165,hy165,h⟩:=Ge h
      refine Gd (u:=.dptr [G0 y165]) [(95,E1 y84.Rows),(97,G0 v164)] O O O .optt ⟨.all id,.all id,G⟩ (fun hc=>(match Rv (Gv hc hy165) with | ⟨_,hm_,hy_⟩=>H0 (f:=G0) (xs:=y84.Rows) (y:=y165) O O O Gy hy_ hm_)) ?_
      refine Gd (u:=G0 y165) [(98,.dptr [G0 y165])] O O O .optt ⟨.all id,G⟩ (fun hc=>Gf Gb O O O) ?_
      refine Gd (u:=BL (decide (y157≤y165))) [(93,G0 y157),(99,G0 y165)] O O O .optt ⟨.all id,.all id,G⟩ (fun hc=>A_leq O O O) ?_
      refine Gd (u:=BL ((decide (0 < (i157:Int)))&&(decide (y157≤y165)))) [(92,BL (decide (0 < (i157:Int)))),(100,_)] O O O .scf ⟨.all id,.part,G⟩ (fun hc=>Qr O O O O) ?_
      refine JLg (BL (((decide (y157 < 0))||(decide (30 < y157)))||((decide (0 < (i157:Int)))&&(decide (y157≤y165))))) (Y4 O O O O) ?_
      refine G8 (hK163 _ _ ?_)
      refine Gh O (fun hb=>?_) (fun hb=>?_)
      ·
       replace h:=Gv hb h
       refine G6 fun K166 hK166=>G3 ?_
       refine JLg (BL false) (G9 O O) ?_
       refine G8 (hK166 _ _ ?_)
       refine Gu ?_
       exact⟨[BL false],[],G,O,⟨⟨_,O,.conv (.same O)⟩,G⟩,O,false,Eq.mpr (Option.some.inj h) hp,O⟩
      ·
       replace h:=Hp hb h
       refine Gj ?_
       refine hK162 _ _ ?_
       refine R0 (l':=[(3,.mp 1103),(8,.dptr [G0 y84.Bay,E1 y84.Rows]),(10,G0 y157),(55,E6 s.Covers),(56,Em s.Covers.length),(57,Em i84),(76,E1 y84.Rows),(77,Em y84.Rows.length),(78,Em i157)]) (L':=[(1103,MP 137 H5.kv G0 s157)]) ⟨(by repeat' constructor),⟨⟨_,rfl,.map⟩,G⟩,rfl⟩ ?_
       obtain⟨v167,hv167,h⟩:=Ge h
       obtain⟨v168,hv168,h⟩:=Hm h
       refine Qp [7,9] [0,0,0,0,0,0,0,0,1,0] [0,0,0,0,0,1,1,0,1,0] [[(1103,MP 137 H5.kv G0 s157)],((1103,MI 137 H5.kv G0 s157 (H5.mk y84.Bay y157 2) 0)::[(1103,MP 137 H5.kv G0 s157)]),((1103,MP 137 H5.kv G0 (Gr.put s157 (H5.mk y84.Bay y157 2) v168))::((1103,MI 137 H5.kv G0 s157 (H5.mk y84.Bay y157 2) 0)::[(1103,MP 137 H5.kv G0 s157)]))] Q5 (by kernel_rfl) rfl rfl ?_
       refine Gn (u:=.mp 1103) O O ⟨Gs (G7 O O) O,G⟩ ?_
       refine Gn (u:=.dptr [G0 y84.Bay,E1 y84.Rows]) O O ⟨Gs (Gc Y8 O O O) O,G⟩ ?_
       refine Gn (u:=G0 y84.Bay) O O ⟨Gs (Gf Gb O O O) O,G⟩ ?_
       refine Gn (u:=G0 y157) O O ⟨Gs (G7 O O) O,G⟩ ?_
       refine Gn (u:=.agg [G0 y84.Bay,G0 y157,G0 2]) O O ⟨Gs (A_buildArr (cs:=[G0 y84.Bay,G0 y157,G0 2]) [.int .i64 0,.int .i64 0,.int .i64 0] tf_arr_138 tf_zero_138 O O) O,G⟩ ?_
       refine Gn (u:=G0 v167) O O ⟨Gs (((Option.some.inj hv167) ▸ Qv (av:=G0) (m:=s157) (a:=(H5.mk y84.Bay y157 2)) 0 (.int .i64 0) O O O O tk_138 Yn Rw O)) O,Gs (((Option.some.inj hv167) ▸ A_lookupMI (av:=G0) (m:=s157) (a:=(H5.mk y84.Bay y157 2)) 0 (.int .i64 0) O O O O tk_138 Yn Rw O)) O,G⟩ ?_
       refine Gn (u:=G0 v168) O O ⟨Gs (Ht hv168 O O O) O,Gs (Ht hv168 O O O) O,G⟩ ?_
       refine D_w (u:=.tup [.junk,G0 (midx (Gr.l s157) (H5.mk y84.Bay y157 2):Int)]) O O O O (Gs (A_mapEntryM (m:=s157) (a:=(H5.mk y84.Bay y157 2)) 0 (.int .i64 0) O O O O tk_138 Yn Rw O) O) ?_
       refine Gn (u:=G0 (midx (Gr.l s157) (H5.mk y84.Bay y157 2):Int)) O O ⟨Gs (Hq O O O) O,G⟩ ?_
       refine D_w0 (u:=.junk) O O O O (Gs (A_entryStoreM (m:=s157) (a:=(H5.mk y84.Bay y157 2)) (v:=v168) 0 O O O O O O) O) ?_
       refine Ry ?_
       refine hK160 _ _ ?_
       refine G3 ?_
       refine JLg (G0 ((i157+1:Nat):Int)) (Ht (Hc hk157 hm77) O O O) ?_
       refine JLg (G0 ((i157+1:Nat):Int)) (G7 O O) ?_
       refine G8 ?_
       exact e157 _ _ (i157+1) (Gr.put s157 (H5.mk y84.Bay y157 2) v168) (app1 hn157 h) (by omega) ⟨(by repeat' constructor),⟨⟨_,rfl,.map⟩,G⟩,rfl⟩
     ·
      have h:=app1 hkx157 (Ho hi157 (H3 hb))
      refine Hk ?_
      refine hK87 _ _ ?_
      refine G3 ?_
      refine JLg (G0 ((i84+1:Nat):Int)) (Ht (Hc hk84 hm56) O O O) ?_
      refine JLg (G0 ((i84+1:Nat):Int)) (G7 O O) ?_
      refine G8 ?_
      exact e84 _ _ (i84+1) s157 (app1 hn84 h) (by omega) ⟨(by repeat' constructor),⟨⟨_,rfl,.map⟩,G⟩,rfl⟩
   ·
    have h:=app1 hkx84 (Ho hi84 (H3 hb))
    refine Hk ?_
    refine hK82 _ _ ?_
    refine G6 (fun K169 hK169=>?_)
    refine G6 fun K170 hK170=>G3 ?_
    refine JLg (.mp 1103) (G7 O O) ?_
    refine JLg (.it 1104) (A_rangeM 1104 (m:=s84) O O O O Yn) ?_
    refine G8 (hK170 _ _ ?_)
    refine Gg ?_
    obtain⟨b176,kx176,hb176,hkx176,h⟩:=eachM_in h
    refine JC_loopM (Gr.size s84) (fun i176 (s176:Unit)=>MInv b176 kx176 (Gr.l s84) i176 s176) (fun i176 s176=>[(115,.it 1104)]) (fun i176 s176=>[(1103,MP 137 H5.kv G0 s84),(1104,.iter 1103 (Gr.size s84) i176)]) () (MInv.start h hp) ⟨⟨.same O,G⟩,⟨⟨_,O,.map⟩,⟨_,O,.iter O⟩,G⟩,O⟩ ?_
    clear h hp
    intro i176 s176 hi176 K176 e176
    refine G6 fun K177 hK177=>G3 ?_
    refine Yw O O O (A_nextM (m:=s84) O O O O) ?_
    intro u_ L_ hn_
    rcases hn_ with ⟨q176,x176,he176,hs176,rfl,rfl⟩ | ⟨ha176,rfl,rfl⟩
    ·
     obtain⟨o176,h,ho1_176,ho2_176⟩:=hi176.step he176 hs176
     replace h:=app3 hb176 h
     refine JLg (BL true) (Hq O O O) ?_
     refine G8 (hK177 _ _ ?_)
     refine G6 (fun K178 hK178=>?_)
     refine JC_condT O ?_
     refine Gj ?_
     refine hK178 _ _ ?_
     refine Gg ?_
     refine G6 fun K179 hK179=>G3 ?_
     refine JLg (.tup [.agg (H5.cs x176.1),G0 x176.2]) (A_entryM (kv:=H5.kv) (av:=G0) (m:=s84) (q:=q176) (seen:=i176) (e:=x176) O O O O he176) ?_
     refine JLg (G0 x176.2) (Hq O O O) ?_
     refine JLg (G0 x176.2) (G9 O O) ?_
     refine G8 (hK179 _ _ ?_)
     refine G6 fun K180 hK180=>G3 ?_
     refine JLg (G0 x176.2) (G7 O O) ?_
     refine JLg (BL (decide (1 < x176.2))) (Yd O O O) ?_
     refine G8 (hK180 _ _ ?_)
     refine Gh O (fun hb=>?_) (fun hb=>?_)
     ·
      replace h:=Gv hb h
      refine G6 fun K181 hK181=>G3 ?_
      refine JLg (BL false) (G9 O O) ?_
      refine G8 (hK181 _ _ ?_)
      refine Gu ?_
      obtain⟨y_,hy_,hl_⟩:=lft_out h
      exact⟨[BL false],[],G,O,⟨⟨_,O,.conv (.same O)⟩,G⟩,O,false,Eq.mpr (Option.some.inj hl_) (ho1_176 y_ hy_),O⟩
     ·
      replace h:=Hp hb h
      refine Gj ?_
      exact e176 _ _ (i176++[q176]) () (ho2_176 _ (Option.some.inj h).symm) (unseen_lt (List.getElem?_eq_some_iff.1 he176).1 hs176) ⟨⟨.same O,G⟩,⟨⟨_,O,.map⟩,⟨_,O,.iter O⟩,G⟩,O⟩
    ·
     obtain⟨p_,h,hp⟩:=hi176.done ha176
     replace h:=app1 hkx176 h
     refine JLg (BL false) (Hq O O O) ?_
     refine G8 (hK177 _ _ ?_)
     refine G6 (fun K182 hK182=>?_)
     refine JC_condF O ?_
     refine Hk ?_
     refine hK169 _ _ ?_
     refine G6 fun K183 hK183=>G3 ?_
     refine JLg (BL true) (G9 O O) ?_
     refine G8 (hK183 _ _ ?_)
     refine Gu ?_
     exact⟨[BL true],[],G,O,⟨⟨_,O,.conv (.same O)⟩,G⟩,O,true,Eq.mpr (Option.some.inj h) hp,O⟩
theorem M_ship_Right_s (S_:(Gz)→Option Bool) (hS_:∀ s r,S_ s=some r→∃ p:Prop,M_ship_Right s (fun r_=>r_=r)=some p∧p) (s:Gz) (r:Bool) (h:S_ s=some r):Pure Tryz.prog 29 [.agg (Gz.cs s)] (·=BL r):=by
 obtain⟨p,h1,h2⟩:=hS_ s r h
 exact(M_ship_Right_w s _ p h1 h2).monoP (fun av hh=>by obtain⟨r_,rfl,ha⟩:=hh; exact ha)

def M_slot_halves (size:Int):Option (List Int):=
 bif decide (size=40) then
 (some [0])
 else
 (bif decide (size=20) then
  (some [1,2])
  else
  (some []))
theorem M_slot_halves_w (size:Int) (r:(List Int)) (h:M_slot_halves size=some r):Pure Tryz.prog 69 [U8 size] (·=Ea r):=by
 unfold M_slot_halves at h
 refine H9 [.tmp 2] Tryz.func69 O O ?_
 refine G6 fun K1 hK1=>G3 ?_
 refine JLg (Ea ([]:List Int)) (Jj 1 O O) ?_
 refine G8 (hK1 _ _ ?_)
 refine G6 (fun K2 hK2=>?_)
 refine G6 fun K3 hK3=>G3 ?_
 refine JLg (U8 size) (G7 O O) ?_
 refine G8 (hK3 _ _ ?_)
 refine Gg ?_
 refine G6 fun K4 hK4=>G3 ?_
 refine JLg (BL (decide (size=40))) (Qb O O O) ?_
 refine JLg (BL (decide (size=40))) (G9 O O) ?_
 refine G8 (hK4 _ _ ?_)
 refine Gh O (fun hb=>?_) (fun hb=>?_)
 ·
  replace h:=Gv hb h
  refine G6 fun K5 hK5=>G3 ?_
  refine JLg (Ea [0]) (Hd (xs:=[U8 0]) O ⟨O,O,G⟩ Yc tf_zsize_5 O O O O) ?_
  refine JLg (Ea [0]) (G9 O O) ?_
  refine G8 (hK5 _ _ ?_)
  refine Gu ?_
  exact⟨[Ea [0]],[],G,O,⟨⟨_,O,.conv (.same O)⟩,G⟩,O,congrArg (fun r:(List Int)=>(Ea r:AV)) (Option.some.inj h)⟩
 ·
  replace h:=Hp hb h
  refine G6 fun K6 hK6=>G3 ?_
  refine JLg (BL (decide (size=20))) (Qb O O O) ?_
  refine JLg (BL (decide (size=20))) (G9 O O) ?_
  refine G8 (hK6 _ _ ?_)
  refine Gh O (fun hb=>?_) (fun hb=>?_)
  ·
   replace h:=Gv hb h
   refine G6 fun K7 hK7=>G3 ?_
   refine JLg (Ea [1,2]) (Hd (xs:=[U8 1,U8 2]) O ⟨O,O,O,O,G⟩ Yc tf_zsize_5 O O O O) ?_
   refine JLg (Ea [1,2]) (G9 O O) ?_
   refine G8 (hK7 _ _ ?_)
   refine Gu ?_
   exact⟨[Ea [1,2]],[],G,O,⟨⟨_,O,.conv (.same O)⟩,G⟩,O,congrArg (fun r:(List Int)=>(Ea r:AV)) (Option.some.inj h)⟩
  ·
   replace h:=Hp hb h
   refine Gj ?_
   refine hK2 _ _ ?_
   refine G6 fun K8 hK8=>G3 ?_
   refine JLg (Ea ([]:List Int)) (Jj 1 O O) ?_
   refine G8 (hK8 _ _ ?_)
   refine Gu ?_
   exact⟨[Ea ([]:List Int)],[],G,O,⟨⟨_,O,.conv (.same O)⟩,G⟩,O,congrArg (fun r:(List Int)=>(Ea r:AV)) (Option.some.inj h)⟩

def M_slot_slots_1 (p1:Gz) (p2:Int) (ys_:List Slot):Option Unit:=
 each (fun y2 i2 (s2:Nat) nx2=>
  need (decide ((max y2.Tiers 0)≤9223372036854775807)) <|
  upto (fun i8 (s8:Nat) nx8=>
   bnd (M_slot_halves p2) fun r14=>
   each (fun y29 i29 (s29:Nat) nx29=>
    need (decide (ys_[s29]? = some (Slot.mk (i2:Int) (i8:Int) y29))) <|
    nx29 (s29+1))
   (fun(s29:Nat)=>
    nx8 s29) r14 0 s8)
  (fun(s8:Nat)=>
   nx2 s8) (max y2.Tiers 0).toNat 0 s2)
 (fun(s2:Nat)=>
  need (decide (s2=ys_.length)) (some ())) p1.Columns 0 0
theorem M_slot_slots_1_w (p1:Gz) (p2:Int) (ys_:List Slot) (q_:Unit) (h:M_slot_slots_1 p1 p2 ys_=some q_):Iter Tryz.prog 81 [.dptr (Gz.cs p1),.dptr [U8 p2]] (ys_.map (fun y:Slot=>[.agg [G0 y.G5,G0 y.Tier,U8 y.Half]])):=by
 unfold M_slot_slots_1 at h
 refine Iter_of Tryz.func81 O O ?_
 intro E hE hys
 refine JI_seq (fun K1 hK1=>?_)
 refine JI_region ?_
 refine Jo (u:=Ee p1) hE (Gc J6 O O O) ?_ O O O O
 refine Jo (u:=E4 p1.Columns) hE (Gf Jd O O O) ?_ O O O O
 refine JIL_lenM hE (f:=G5.av) (xs:=p1.Columns) J7 O O (fun hm11=>?_) O O O
 refine Jo (u:=G0 0) hE (G7 O O) ?_ O O O O
 refine Rf ?_
 refine hK1 _ _ _ ?_
 refine JI_block ?_
 obtain⟨b2,kx2,hb2,hkx2,h⟩:=Hu h
 refine JI_loop2 (fun i2 (s2:Nat)=>each b2 kx2 (List.drop i2 p1.Columns) i2 s2=some q_) (fun i2 s2=>[(0,.sc (.func (.yield E.lp) #[] #[])),(2,.dptr [U8 p2]),(10,E4 p1.Columns),(11,Em p1.Columns.length),(12,Em i2)]) (fun i2 s2=>[]) (fun i2 s2=>s2) (fun i2=>p1.Columns.length - i2) 0 0 h ⟨(by repeat' constructor),G,rfl⟩ rfl ?_
 clear h
 intro i2 s2 hi2 K2 e2
 refine JI_seq (fun K3 hK3=>?_)
 refine JI_region ?_
 refine Jo (u:=BL (decide ((i2:Int) < (p1.Columns.length:Int)))) hE (Hy O O O) ?_ O O O O
 refine Rf ?_
 refine hK3 _ _ _ ?_
 refine JI_seq (fun K4 hK4=>?_)
 refine JI_cond O (fun hb=>?_) (fun hb=>?_)
 ·
  have hk2:=J9 hb
  obtain⟨y2,nx2,hy2,hn2,h⟩:=Hn hi2 hk2
  replace h:=app4 hb2 h
  refine JI_skip ?_
  refine hK4 _ _ _ ?_
  refine JI_seq (fun K5 hK5=>?_)
  refine JI_block ?_
  refine JI_seq (fun K6 hK6=>?_)
  refine JI_region ?_
  refine Jo (u:=Em i2) hE (G7 O O) ?_ O O O O
  refine Jo (u:=Ei y2) hE (H0 (f:=G5.av) (xs:=p1.Columns) (y:=y2) O O O J7 hy2 O) ?_ O O O O
  refine Jo (u:=.agg (G5.cs y2)) hE (Gi Ya O O O) ?_ O O O O
  refine Jo (u:=.ptr 1164 0) hE (Hi 1164 12 Rn O O) ?_ O O O O
  refine Jo (u:=Em i2) hE (G9 O O) ?_ O O O O
  refine JIL_go0 (u:=.junk) hE (H2 (u:=.agg (G5.cs y2)) (ds:=(G5.cs y2)) Ym O O O O O O O O) ?_ O O O
  refine Rf ?_
  refine hK6 _ _ _ ?_
  refine JI_seq (fun K7 hK7=>?_)
  refine JI_region ?_
  refine Jo (u:=.ptr 1164 3) hE (Jg tf_field_70_3 O O) ?_ O O O O
  refine Jo (u:=G0 y2.Tiers) hE (Jx Gb O O O O) ?_ O O O O
  refine Jo (u:=G0 (max y2.Tiers 0)) hE (A_max O O O) ?_ O O O O
  refine Jo (u:=G0 0) hE (G7 O O) ?_ O O O O
  refine Rf ?_
  refine hK7 _ _ _ ?_
  refine JI_block ?_
  obtain⟨hx8,h⟩:=Je h
  obtain⟨b8,kx8,hb8,hkx8,h⟩:=upto_in h
  refine JI_loop2 (fun i8 (s8:Nat)=>upto b8 kx8 ((max y2.Tiers 0).toNat - i8) i8 s8=some q_) (fun i8 s8=>[(0,.sc (.func (.yield E.lp) #[] #[])),(2,.dptr [U8 p2]),(4,Em i2),(10,E4 p1.Columns),(11,Em p1.Columns.length),(12,Em i2),(19,G0 (max y2.Tiers 0)),(20,Em i8)]) (fun i8 s8=>[(1164,.box 70 (G5.cs y2))]) (fun i8 s8=>s8) (fun i8=>(max y2.Tiers 0).toNat - i8) 0 s2 h ⟨(by repeat' constructor),⟨⟨_,rfl,.boxL rfl (by repeat' constructor)⟩,G⟩,rfl⟩ rfl ?_
  clear h
  intro i8 s8 hi8 K8 e8
  refine JI_seq (fun K9 hK9=>?_)
  refine JI_region ?_
  refine Jo (u:=BL (decide ((i8:Int) < (max y2.Tiers 0)))) hE (Hy O O O) ?_ O O O O
  refine Rf ?_
  refine hK9 _ _ _ ?_
  refine JI_seq (fun K10 hK10=>?_)
  refine JI_cond O (fun hb=>?_) (fun hb=>?_)
  ·
   have hk8:=lt_toNat hb
   obtain⟨nx8,hn8,h⟩:=upto_out hi8 hk8
   replace h:=app3 hb8 h
   refine JI_skip ?_
   refine hK10 _ _ _ ?_
   refine JI_seq (fun K11 hK11=>?_)
   refine JI_block ?_
   refine JI_seq (fun K12 hK12=>?_)
   refine JI_region ?_
   refine Jo (u:=Em i8) hE (G7 O O) ?_ O O O O
   refine Jo (u:=Em i8) hE (G9 O O) ?_ O O O O
   refine Rf ?_
   refine hK12 _ _ _ ?_
   refine JI_seq (fun K13 hK13=>?_)
   refine JI_region ?_
   refine Jo (u:=U8 p2) hE (Gf Hx O O O) ?_ O O O O
   obtain⟨r14,hr14,h⟩:=Ge h
   refine Jo (u:=Ea r14) hE (H1 (args:=[U8 p2]) O (M_slot_halves_w p2 r14 hr14) tf_call_69 ⟨O,O,G⟩) ?_ O O O O
   refine JIL_lenM hE (f:=U8) (xs:=r14) Yc O O (fun hm25=>?_) O O O
   refine Jo (u:=G0 0) hE (G7 O O) ?_ O O O O
   refine Rf ?_
   refine hK13 _ _ _ ?_
   refine JI_block ?_
   obtain⟨b29,kx29,hb29,hkx29,h⟩:=Hu h
   refine JI_loop2 (fun i29 (s29:Nat)=>each b29 kx29 (List.drop i29 r14) i29 s29=some q_) (fun i29 s29=>[(0,.sc (.func (.yield E.lp) #[] #[])),(2,.dptr [U8 p2]),(4,Em i2),(6,Em i8),(10,E4 p1.Columns),(11,Em p1.Columns.length),(12,Em i2),(19,G0 (max y2.Tiers 0)),(20,Em i8),(24,Ea r14),(25,Em r14.length),(26,Em i29)]) (fun i29 s29=>[(1164,.box 70 (G5.cs y2))]) (fun i29 s29=>s29) (fun i29=>r14.length - i29) 0 s8 h ⟨(by repeat' constructor),⟨⟨_,rfl,.boxL rfl (by repeat' constructor)⟩,G⟩,rfl⟩ rfl ?_
   clear h
   intro i29 s29 hi29 K29 e29
   refine JI_seq (fun K30 hK30=>?_)
   refine JI_region ?_
   refine Jo (u:=BL (decide ((i29:Int) < (r14.length:Int)))) hE (Hy O O O) ?_ O O O O
   refine Rf ?_
   refine hK30 _ _ _ ?_
   refine JI_seq (fun K31 hK31=>?_)
   refine JI_cond O (fun hb=>?_) (fun hb=>?_)
   ·
    have hk29:=J9 hb
    obtain⟨y29,nx29,hy29,hn29,h⟩:=Hn hi29 hk29
    replace h:=app4 hb29 h
    refine JI_skip ?_
    refine hK31 _ _ _ ?_
    refine JI_seq (fun K32 hK32=>?_)
    refine JI_block ?_
    refine JI_seq (fun K33 hK33=>?_)
    refine JI_region ?_
    refine Jo (u:=.dptr [U8 y29]) hE (H0 (f:=U8) (xs:=r14) (y:=y29) O O O Yc hy29 O) ?_ O O O O
    refine Jo (u:=U8 y29) hE (Gf Hx O O O) ?_ O O O O
    refine Jo (u:=U8 y29) hE (G9 O O) ?_ O O O O
    refine Rf ?_
    refine hK33 _ _ _ ?_
    refine JI_seq (fun K34 hK34=>?_)
    refine JI_region ?_
    refine Jo (u:=.sc (.func (.yield E.lp) #[] #[])) hE (G7 O O) ?_ O O O O
    refine Jo (u:=Em i2) hE (G7 O O) ?_ O O O O
    refine Jo (u:=Em i8) hE (G7 O O) ?_ O O O O
    refine Jo (u:=U8 y29) hE (G7 O O) ?_ O O O O
    refine Jo (u:=.agg [Em i2,Em i8,U8 y29]) hE (J4 (cs:=[Em i2,Em i8,U8 y29]) [(0,1),(1,1),(2,1)] [G0 0,G0 0,U8 0] [.int .i64 0,.int .i64 0,.int .u8 0] tf_places_57 tf_zero_57 ⟨.inl O,.inl O,.inl O,G⟩ O O) ?_ O O O O
    obtain⟨ha35,h⟩:=Je h
    refine JIL_yield (us:=[.agg [Em i2,Em i8,U8 y29]]) hE O O ⟨O,O,G⟩ (yld_at (f:=(fun y:Slot=>[.agg [G0 y.G5,G0 y.Tier,U8 y.Half]])) (x:=(Slot.mk (i2:Int) (i8:Int) y29)) hys ha35) ?_ O O O
    refine Jo (u:=BL false) hE (Rj (b:=true) O O) ?_ O O O O
    refine Rf ?_
    refine hK34 _ _ _ ?_
    refine JI_condF O ?_
    refine JI_skip ?_
    refine hK32 _ _ _ ?_
    refine JI_region ?_
    refine Jo (u:=G0 ((i29+1:Nat):Int)) hE (Ht (Hc hk29 hm25) O O O) ?_ O O O O
    refine Jo (u:=G0 ((i29+1:Nat):Int)) hE (G7 O O) ?_ O O O O
    refine Rf ?_
    exact e29 _ _ (i29+1) (s29+1) _ (app1 hn29 h) (by omega) ⟨(by repeat' constructor),⟨⟨_,rfl,.boxL rfl (by repeat' constructor)⟩,G⟩,rfl⟩ rfl
   ·
    have h:=app1 hkx29 (Ho hi29 (H3 hb))
    refine JI_exit ?_
    refine hK11 _ _ _ ?_
    refine JI_region ?_
    refine Jo (u:=G0 ((i8+1:Nat):Int)) hE (Ht (Hc hk8 (toNat_max hx8)) O O O) ?_ O O O O
    refine Jo (u:=G0 ((i8+1:Nat):Int)) hE (G7 O O) ?_ O O O O
    refine Rf ?_
    exact e8 _ _ (i8+1) s29 _ (app1 hn8 h) (by omega) ⟨(by repeat' constructor),⟨⟨_,rfl,.boxL rfl (by repeat' constructor)⟩,G⟩,rfl⟩ rfl
  ·
   have h:=app1 hkx8 (upto_nil hi8 (not_lt_toNat hb))
   refine JI_exit ?_
   refine hK5 _ _ _ ?_
   refine JI_region ?_
   refine Jo (u:=G0 ((i2+1:Nat):Int)) hE (Ht (Hc hk2 hm11) O O O) ?_ O O O O
   refine Jo (u:=G0 ((i2+1:Nat):Int)) hE (G7 O O) ?_ O O O O
   refine Rf ?_
   exact e2 _ _ (i2+1) s8 _ (app1 hn2 h) (by omega) ⟨(by repeat' constructor),G,rfl⟩ rfl
 ·
  have h:=app1 hkx2 (Ho hi2 (H3 hb))
  refine JI_exit ?_
  exact yld_end (Je h).1
theorem M_slot_slots_1_s (S_:(Gz)→(Int)→Option (List Slot)) (hS_:∀ p1 p2 r,S_ p1 p2=some r→M_slot_slots_1 p1 p2 r=some ()) (p1:Gz) (p2:Int) (r:List Slot) (h:S_ p1 p2=some r):Iter Tryz.prog 81 [.dptr (Gz.cs p1),.dptr [U8 p2]] (r.map (fun y:Slot=>[.agg [G0 y.G5,G0 y.Tier,U8 y.Half]])):=M_slot_slots_1_w p1 p2 r () (hS_ p1 p2 r h)

def M_plan_steps_1 (p1:Plan) (ys_:List ((List G2)×(List G2))):Option Unit:=
 each (fun y23 i23 (s23:(List G2)×Nat) nx23=>
  need (decide (ys_[s23.2]? = some (s23.1,y23))) <|
  nx23 (y23,(s23.2+1)))
 (fun(s23:(List G2)×Nat)=>
  need (decide (s23.2=ys_.length)) (some ())) p1.States 0 ([],0)
theorem M_plan_steps_1_w (p1:Plan) (ys_:List ((List G2)×(List G2))) (q_:Unit) (h:M_plan_steps_1 p1 ys_=some q_):Iter Tryz.prog 62 [.dptr [LS 1 (E0) p1.States,LS 1 (E1) p1.Water]] (ys_.map (fun y:(List G2)×(List G2)=>[E0 y.1,E0 y.2])):=by
 unfold M_plan_steps_1 at h
 refine Iter_of Tryz.func62 O O ?_
 intro E hE hys
 refine JI_seq (fun K1 hK1=>?_)
 refine JI_region ?_
 refine Jo (u:=E0 ([]:List G2)) hE (Jj 4 O O) ?_ O O O O
 refine Rf ?_
 refine hK1 _ _ _ ?_
 refine JI_seq (fun K2 hK2=>?_)
 refine JI_region ?_
 refine Jo (u:=.dptr [LS 1 (E0) p1.States,LS 1 (E1) p1.Water]) hE (Gc Qy O O O) ?_ O O O O
 refine Jo (u:=LS 1 (E0) p1.States) hE (Gf Qk O O O) ?_ O O O O
 refine JIL_lenM hE (f:=(E0)) (xs:=p1.States) Ja O O (fun hm8=>?_) O O O
 refine Jo (u:=G0 0) hE (G7 O O) ?_ O O O O
 refine Rf ?_
 refine hK2 _ _ _ ?_
 refine JI_block ?_
 obtain⟨b23,kx23,hb23,hkx23,h⟩:=Hu h
 refine JI_loop2 (fun i23 (s23:(List G2)×Nat)=>each b23 kx23 (List.drop i23 p1.States) i23 s23=some q_) (fun i23 s23=>[(0,.sc (.func (.yield E.lp) #[] #[])),(3,E0 s23.1),(7,LS 1 (E0) p1.States),(8,Em p1.States.length),(9,Em i23)]) (fun i23 s23=>[]) (fun i23 s23=>s23.2) (fun i23=>p1.States.length - i23) 0 ([],0) h ⟨(by repeat' constructor),G,rfl⟩ rfl ?_
 clear h
 intro i23 s23 hi23 K23 e23
 refine JI_seq (fun K24 hK24=>?_)
 refine JI_region ?_
 refine Jo (u:=BL (decide ((i23:Int) < (p1.States.length:Int)))) hE (Hy O O O) ?_ O O O O
 refine Rf ?_
 refine hK24 _ _ _ ?_
 refine JI_seq (fun K25 hK25=>?_)
 refine JI_cond O (fun hb=>?_) (fun hb=>?_)
 ·
  have hk23:=J9 hb
  obtain⟨y23,nx23,hy23,hn23,h⟩:=Hn hi23 hk23
  replace h:=app4 hb23 h
  refine JI_skip ?_
  refine hK25 _ _ _ ?_
  refine JI_seq (fun K26 hK26=>?_)
  refine JI_block ?_
  refine JI_seq (fun K27 hK27=>?_)
  refine JI_region ?_
  refine Jo (u:=.dptr [E0 y23]) hE (H0 (f:=(E0)) (xs:=p1.States) (y:=y23) O O O Ja hy23 O) ?_ O O O O
  refine Jo (u:=E0 y23) hE (Gf Qc O O O) ?_ O O O O
  refine Jo (u:=E0 y23) hE (G9 O O) ?_ O O O O
  refine Rf ?_
  refine hK27 _ _ _ ?_
  refine JI_seq (fun K28 hK28=>?_)
  refine JI_seq (fun K29 hK29=>?_)
  refine JI_region ?_
  refine Jo (u:=.sc (.func (.yield E.lp) #[] #[])) hE (G7 O O) ?_ O O O O
  refine Jo (u:=E0 s23.1) hE (G7 O O) ?_ O O O O
  refine Jo (u:=E0 y23) hE (G7 O O) ?_ O O O O
  obtain⟨ha30,h⟩:=Je h
  refine JIL_yield (us:=[E0 s23.1,E0 y23]) hE O O ⟨O,O,O,O,G⟩ (yld_at (f:=(fun y:(List G2)×(List G2)=>[E0 y.1,E0 y.2])) (x:=(s23.1,y23)) hys ha30) ?_ O O O
  refine Jo (u:=BL false) hE (Rj (b:=true) O O) ?_ O O O O
  refine Rf ?_
  refine hK29 _ _ _ ?_
  refine JI_condF O ?_
  refine JI_skip ?_
  refine hK28 _ _ _ ?_
  refine JI_region ?_
  refine Jo (u:=E0 y23) hE (G7 O O) ?_ O O O O
  refine Jo (u:=E0 y23) hE (G9 O O) ?_ O O O O
  refine Rf ?_
  refine hK26 _ _ _ ?_
  refine JI_region ?_
  refine Jo (u:=G0 ((i23+1:Nat):Int)) hE (Ht (Hc hk23 hm8) O O O) ?_ O O O O
  refine Jo (u:=G0 ((i23+1:Nat):Int)) hE (G7 O O) ?_ O O O O
  refine Rf ?_
  exact e23 _ _ (i23+1) (y23,(s23.2+1)) _ (app1 hn23 h) (by omega) ⟨(by repeat' constructor),G,rfl⟩ rfl
 ·
  have h:=app1 hkx23 (Ho hi23 (H3 hb))
  refine JI_exit ?_
  exact yld_end (Je h).1
theorem M_plan_steps_1_s (S_:(Plan)→Option (List ((List G2)×(List G2)))) (hS_:∀ p1 r,S_ p1=some r→M_plan_steps_1 p1 r=some ()) (p1:Plan) (r:List ((List G2)×(List G2))) (h:S_ p1=some r):Iter Tryz.prog 62 [.dptr [LS 1 (E0) p1.States,LS 1 (E1) p1.Water]] (r.map (fun y:(List G2)×(List G2)=>[E0 y.1,E0 y.2])):=M_plan_steps_1_w p1 r () (hS_ p1 r h)
end
end Go.Proofs.YtkfhfoljfbjknaaGreat
