/-
 Models of functions of the program,and that they return what the models say.
-/
import Derived.Test.YtfkilljboodoaaaGreatSortLay
import Derived.Test.YtfkilljboodoaaaGreatLent
set_option maxRecDepth 100000
set_option linter.unusedVariables false
set_option linter.unusedSimpArgs false
namespace Go.Proofs.YtfkilljboodoaaaGreat
open Go.RowKit
noncomputable section
structure Hj where
 n:Int
 low:Int
 high:Int
 deriving DecidableEq,Inhabited
def Hj.cs (x:Hj):List AV:=[G0 x.n,G0 x.low,G0 x.high]
def Hj.av (x:Hj):AV:=.agg x.cs
structure G4 where
 Bay:Int
 Row:Int
 Deck:Bool
 Tiers:Int
 Height:Int
 Kilos20:Int
 Kilos40:Int
 Lash:Int
 Plugs:List Int
 X:Int
 Y:Int
 Z:Int
 deriving DecidableEq,Inhabited
def G4.cs (x:G4):List AV:=[G0 x.Bay,G0 x.Row,BL x.Deck,G0 x.Tiers,G0 x.Height,G0 x.Kilos20,G0 x.Kilos40,G0 x.Lash,E1 x.Plugs,G0 x.X,G0 x.Y,G0 x.Z]
def G4.av (x:G4):AV:=.agg x.cs
abbrev Eh (x:G4):AV:=.dptr (G4.cs x)
abbrev E3:=LS 12 G4.av
structure Gg where
 Bay:Int
 Rows:List Int
 deriving DecidableEq,Inhabited
def Gg.cs (x:Gg):List AV:=[G0 x.Bay,E1 x.Rows]
def Gg.av (x:Gg):AV:=.agg x.cs
abbrev E4:=LS 2 Gg.av
structure Light where
 Kilos:Int
 X:Int
 Y:Int
 Z:Int
 deriving DecidableEq,Inhabited
def Light.cs (x:Light):List AV:=[G0 x.Kilos,G0 x.X,G0 x.Y,G0 x.Z]
def Light.av (x:Light):AV:=.agg x.cs
structure Row where
 Draught:Int
 Kilos:Int
 Buoy:Int
 Metacentre:Int
 H8d:Int
 deriving DecidableEq,Inhabited
def Row.cs (x:Row):List AV:=[G0 x.Draught,G0 x.Kilos,G0 x.Buoy,G0 x.Metacentre,G0 x.H8d]
def Row.av (x:Row):AV:=.agg x.cs
abbrev Ek (x:Row):AV:=.dptr (Row.cs x)
abbrev E6:=LS 5 Row.av
structure Frame where
 X:Int
 Light:Int
 Share:Int
 Shear:Int
 Bend:Int
 deriving DecidableEq,Inhabited
def Frame.cs (x:Frame):List AV:=[G0 x.X,G0 x.Light,G0 x.Share,G0 x.Shear,G0 x.Bend]
def Frame.av (x:Frame):AV:=.agg x.cs
abbrev Em (x:Frame):AV:=.dptr (Frame.cs x)
abbrev E5:=LS 5 Frame.av
structure Gr where
 Kilos:Int
 X:Int
 Y:Int
 Z:Int
 Surface:Int
 Steps:List Int
 deriving DecidableEq,Inhabited
def Gr.cs (x:Gr):List AV:=[G0 x.Kilos,G0 x.X,G0 x.Y,G0 x.Z,G0 x.Surface,E1 x.Steps]
def Gr.av (x:Gr):AV:=.agg x.cs
abbrev Ej (x:Gr):AV:=.dptr (Gr.cs x)
abbrev E7:=LS 6 Gr.av
structure G3 where
 Tolerance:Int
 Trim:Int
 List_:Int
 Stability:Int
 deriving DecidableEq,Inhabited
def G3.cs (x:G3):List AV:=[G0 x.Tolerance,G0 x.Trim,G0 x.List_,G0 x.Stability]
def G3.av (x:G3):AV:=.agg x.cs
structure Hb where
 Columns:List G4
 Covers:List Gg
 Light:Light
 Rows:List Row
 Frames:List Frame
 Tanks:List Gr
 G3:G3
 deriving DecidableEq,Inhabited
def Hb.cs (x:Hb):List AV:=[E3 x.Columns,E4 x.Covers,G0 x.Light.Kilos,G0 x.Light.X,G0 x.Light.Y,G0 x.Light.Z,E6 x.Rows,E5 x.Frames,E7 x.Tanks,G0 x.G3.Tolerance,G0 x.G3.Trim,G0 x.G3.List_,G0 x.G3.Stability]
def Hb.av (x:Hb):AV:=.agg x.cs
abbrev Ee (x:Hb):AV:=.dptr (Hb.cs x)
structure Hd where
 e0:Int
 e1:Int
 e2:Int
 deriving DecidableEq,Inhabited
def Hd.cs (x:Hd):List AV:=[G0 x.e0,G0 x.e1,G0 x.e2]
def Hd.av (x:Hd):AV:=.agg x.cs
def Hd.ks (x:Hd):List Value:=[.int .i64 x.e0,.int .i64 x.e1,.int .i64 x.e2]
def Hd.kv (x:Hd):Value:=.agg x.ks.toArray
structure Slot where
 G4:Int
 Tier:Int
 Half:Int
 deriving DecidableEq,Inhabited
def Slot.cs (x:Slot):List AV:=[G0 x.G4,G0 x.Tier,U8 x.Half]
def Slot.av (x:Slot):AV:=.agg x.cs
abbrev Eg (x:Slot):AV:=.dptr (Slot.cs x)
abbrev E8:=LS 3 Slot.av
structure G6 where
 Gv:Int
 Slot:Slot
 deriving DecidableEq,Inhabited
def G6.cs (x:G6):List AV:=[G0 x.Gv,G0 x.Slot.G4,G0 x.Slot.Tier,U8 x.Slot.Half]
def G6.av (x:G6):AV:=.agg x.cs
abbrev Ef (x:G6):AV:=.dptr (G6.cs x)
abbrev E0:=LS 4 G6.av
structure Gf1 where
 States:List (List G6)
 Water:List (List Int)
 deriving DecidableEq,Inhabited
def Gf1.cs (x:Gf1):List AV:=[LS 1 (E0) x.States,LS 1 (E1) x.Water]
def Gf1.av (x:Gf1):AV:=.agg x.cs
namespace XAF
theorem tq_241 (a b:Hd):H32 Tryz.prog 4 241 [.int .i64 a.e0,.int .i64 a.e1,.int .i64 a.e2] [.int .i64 b.e0,.int .i64 b.e1,.int .i64 b.e2]=some (decide (a=b)):=by
 refine(show _=some ((a.e0==b.e0)&&((a.e1==b.e1)&&((a.e2==b.e2)&&true))) by kernel_rfl).trans (congrArg some ?_)
 rw [Bool.eq_iff_iff]
 simp only [Bool.and_eq_true,beq_iff_eq,decide_eq_true_eq,Bool.and_true]
 constructor
 ·intro h; obtain⟨_,_,_⟩:=a; obtain⟨_,_,_⟩:=b; simp_all
 ·intro h; subst h; simp
theorem Rr:Gab Tryz.prog 112 12=true:=by kernel_rfl
theorem Rh:Gab Tryz.prog 114 2=true:=by kernel_rfl
theorem Q11:Gab Tryz.prog 314 3=true:=by kernel_rfl
theorem J6a:arrB Tryz.prog 241 3 1=true:=by kernel_rfl
theorem Je1:Hf Tryz.prog 150=true:=by kernel_rfl
theorem J1d:Hf Tryz.prog 241=true:=by kernel_rfl
theorem Z4:Q4 Tryz.prog 112 0 0=true:=by kernel_rfl
theorem Z3:Q4 Tryz.prog 112 1 1=true:=by kernel_rfl
theorem G7a:Q4 Tryz.prog 112 10 10=true:=by kernel_rfl
theorem G79:Q4 Tryz.prog 112 11 11=true:=by kernel_rfl
theorem Z2:Q4 Tryz.prog 112 2 2=true:=by kernel_rfl
theorem Z1:Q4 Tryz.prog 112 3 3=true:=by kernel_rfl
theorem Zu:Q4 Tryz.prog 112 4 4=true:=by kernel_rfl
theorem G93:Q4 Tryz.prog 112 5 5=true:=by kernel_rfl
theorem G92:Q4 Tryz.prog 112 6 6=true:=by kernel_rfl
theorem G91:Q4 Tryz.prog 112 7 7=true:=by kernel_rfl
theorem Qp:Q4 Tryz.prog 112 8 8=true:=by kernel_rfl
theorem G90:Q4 Tryz.prog 112 9 9=true:=by kernel_rfl
theorem Yf:Q4 Tryz.prog 114 0 0=true:=by kernel_rfl
theorem Jr:Q4 Tryz.prog 114 1 1=true:=by kernel_rfl
theorem H69:Q4 Tryz.prog 314 0 0=true:=by kernel_rfl
theorem J5b:Q4 Tryz.prog 314 1 1=true:=by kernel_rfl
theorem J5a:Q4 Tryz.prog 314 2 2=true:=by kernel_rfl
theorem Hi:Q4 Tryz.prog 32 0 0=true:=by kernel_rfl
theorem Jz:Q4 Tryz.prog 32 1 1=true:=by kernel_rfl
theorem H22:Q4 Tryz.prog 37 0 0=true:=by kernel_rfl
theorem G7d:Ga1 Tryz.prog 240 241 3=true:=by kernel_rfl
theorem Jk:Tryz.prog.follows .mixedOrders=true:=by kernel_rfl
theorem Ye:placesOf Tryz.prog 314=some [(0,1),(1,1),(2,1)]:=by kernel_rfl
theorem Hq:Ro Tryz.prog 22=true:=by kernel_rfl
theorem Qh:Ro Tryz.prog 23=true:=by kernel_rfl
theorem Gd:Ro Tryz.prog 3=true:=by kernel_rfl
theorem G3c:Ro Tryz.prog 34=true:=by kernel_rfl
theorem Rq:Ro Tryz.prog 4=true:=by kernel_rfl
theorem Hg:Ro Tryz.prog 51=true:=by kernel_rfl
theorem Zp:Ro Tryz.prog 62=true:=by kernel_rfl
theorem Gb5:Rv Tryz.prog 112 12=true:=by kernel_rfl
theorem G54:Rv Tryz.prog 114 2=true:=by kernel_rfl
theorem Jb6:Rv Tryz.prog 314 3=true:=by kernel_rfl
theorem H7:sliceB Tryz.prog 22 112 12=true:=by kernel_rfl
theorem Hp:sliceB Tryz.prog 23 114 2=true:=by kernel_rfl
theorem Gcd:sliceB Tryz.prog 312 314 3=true:=by kernel_rfl
theorem Gcc:sliceB Tryz.prog 319 5 1=true:=by kernel_rfl
theorem Rg:sliceB Tryz.prog 34 62 1=true:=by kernel_rfl
theorem H0:sliceB Tryz.prog 51 3 1=true:=by kernel_rfl
theorem J12:(Tryz.prog.info? 241).bind (fun i=>i.zero.map Value.cells)=some (List.toArray [.int .i64 0,.int .i64 0,.int .i64 0]):=by kernel_rfl
theorem Zs:(Tryz.prog.info? 314).bind (fun i=>i.zero.map Value.cells)=some (List.toArray [.int .i64 0,.int .i64 0,.int .i64 0]):=by kernel_rfl
theorem G5e:Rw Tryz.prog 112 12=true:=by kernel_rfl
theorem G20:Rw Tryz.prog 114 2=true:=by kernel_rfl
theorem H44:Rw Tryz.prog 314 3=true:=by kernel_rfl
theorem J55:Rw Tryz.prog 5 1=true:=by kernel_rfl
theorem H9a:(Tryz.prog.info? 3).bind (·.zero)=some (.int .i64 0):=by kernel_rfl
theorem Hf7:H0e Tryz.prog 241 Hd.kv:=H0e.of_eq Hd.ks (by kernel_rfl) (fun a b h=>by simp only [Hd.ks,List.cons.injEq,Value.int.injEq,Value.bool.injEq,Value.string.injEq,true_and,and_true] at h; obtain⟨_,_,_⟩:=a; obtain⟨_,_,_⟩:=b; simp_all) 4 (by decide) (fun a b=>tq_241 a b) (fun a=>by kernel_rfl) (fun a=>by simp [Instr.sameBits,Hd.ks])
end XAF
open XAF

def G39 (l:List Hj):Option Bool:=
 each (fun y18 i18 (s18:Unit) nx18=>
  bif ((decide (y18.n < y18.low))||(decide (y18.high < y18.n))) then
  (some false)
  else
  (nx18 ()))
 (fun(s18:Unit)=>
  some true) l 0 ()
theorem H3a (l:List Hj) (r:Bool) (h:G39 l=some r):Pure Tryz.prog 241 [LS 3 Hj.av l] (·=BL r):=by
 unfold G39 at h
 refine H1 [.tmp 2] Tryz.func241 O O (G7 fun K1 hK1=>G2 (JLh (BL false) (G9 O O) O (G8 (hK1 _ _ (G7 (fun K2 hK2=>G7 fun K3 hK3=>G2 (JLh (LS 3 Hj.av l) (G5 O O) O (H3 (f:=Hj.av) (xs:=l) Gcd O O (fun hm6=>?_) O O O))))))))
 refine JLh (G0 0) (G5 O O) O (G8 (hK3 _ _ (Gk ?_)))
 obtain⟨b18,kx18,hb18,hkx18,h⟩:=Hw h
 refine Hc (fun i18 (s18:Unit)=>each b18 kx18 (List.drop i18 l) i18 s18=some r) (fun i18 s18=>[(5,LS 3 Hj.av l),(6,En l.length),(7,En i18)]) (fun i18 s18=>[]) (fun i18=>l.length - i18) 0 () h ⟨⟨.same O,.same O,.same O,G⟩,G,O⟩ ?_
 clear h
 intro i18 s18 hi18 K18 e18
 refine G7 fun K19 hK19=>G2 (JLh (BL (decide ((i18:Int) < (l.length:Int)))) (J2 O O O) O (G8 (hK19 _ _ (G7 (fun K20 hK20=>Gn O (fun hb=>?_) (fun hb=>?_))))))
 ·
  have hk18:=Jc hb
  obtain⟨y18,nx18,hy18,hn18,h⟩:=Hn hi18 hk18
  replace h:=Yb hb18 h
  refine Gp (hK20 _ _ (G7 (fun K21 hK21=>Gk (G7 fun K22 hK22=>G2 (JLh (.dptr [G0 y18.n,G0 y18.low,G0 y18.high]) (Gt (f:=Hj.av) (xs:=l) (y:=y18) O O O Gcd hy18 O) O (JLh (.agg [G0 y18.n,G0 y18.low,G0 y18.high]) (Gj Q11 O O O) O (JLh (.ptr 1135 0) (Jb 1135 3 H44 O O) O (J4 (u:=.junk) (Ht (u:=.agg [G0 y18.n,G0 y18.low,G0 y18.high]) (ds:=[G0 y18.n,G0 y18.low,G0 y18.high]) Jb6 O O O O O O O O) (G8 (hK22 _ _ (Gx [(4,.dptr [G0 y18.n,G0 y18.low,G0 y18.high]),(5,LS 3 Hj.av l),(6,En l.length),(7,En i18)] [] 1135 rfl rfl rfl G rfl (by repeat' (first | exact .ptr | constructor)) ?_)))))))))))
  refine G7 fun K23 hK23=>G2 (JLh (.dptr [G0 y18.n,G0 y18.low,G0 y18.high]) (Gb H69 O O O) O (JLh (G0 y18.n) (Gh Gd O O O) O (JLh (.dptr [G0 y18.low,G0 y18.high]) (Gb J5b O O O) O (JLh (G0 y18.low) (Gh Gd O O O) O (JLh (BL (decide (y18.n < y18.low))) (J2 O O O) O (JLh (BL (decide (y18.n < y18.low))) (G5 O O) O (Ga (u:=.dptr [G0 y18.n,G0 y18.low,G0 y18.high]) [] O O O .scf G (fun hc=>Gb H69 O O O) ?_)))))))
  refine Ga (u:=G0 y18.n) [(17,.dptr [G0 y18.n,G0 y18.low,G0 y18.high])] O O O .scf ⟨.all id,G⟩ (fun hc=>Gh Gd O O O) ?_
  refine Ga (u:=.dptr [G0 y18.high]) [] O O O .scf G (fun hc=>Gb J5a O O O) ?_
  refine Ga (u:=G0 y18.high) [(19,.dptr [G0 y18.high])] O O O .scf ⟨.all id,G⟩ (fun hc=>Gh Gd O O O) ?_
  refine Ga (u:=BL (decide (y18.high < y18.n))) [(18,G0 y18.n),(20,G0 y18.high)] O O O .scf ⟨.all id,.all id,G⟩ (fun hc=>G31 O O O) ?_
  refine JLh (BL ((decide (y18.n < y18.low))||(decide (y18.high < y18.n)))) (Rn O O O O) O (G8 (hK23 _ _ (Gn O (fun hb=>?_) (fun hb=>?_))))
  ·
   replace h:=Gz hb h
   refine G7 fun K24 hK24=>G2 (JLh (BL false) (G9 O O) O (G8 (hK24 _ _ (Gu (⟨[BL false],[],G,O,⟨⟨_,O,.conv (.same O)⟩,G⟩,O,congrArg (fun r:Bool=>(BL r:AV)) (Option.some.inj h)⟩)))))
  ·
   replace h:=Hv hb h
   refine Gp (hK21 _ _ (G2 (JLh (G0 ((i18+1:Nat):Int)) (Hy (He hk18 hm6) O O O) O (JLh (G0 ((i18+1:Nat):Int)) (G5 O O) O (G8 (e18 _ _ (i18+1) () (app1 hn18 h) (by omega) ⟨⟨.same rfl,.same rfl,.same rfl,G⟩,G,rfl⟩))))))
 ·
  have h:=app1 hkx18 (Ho hi18 (H9 hb))
  refine Hk (hK2 _ _ (G7 fun K25 hK25=>G2 (JLh (BL true) (G9 O O) O (G8 (hK25 _ _ (Gu (⟨[BL true],[],G,O,⟨⟨_,O,.conv (.same O)⟩,G⟩,O,congrArg (fun r:Bool=>(BL r:AV)) (Option.some.inj h)⟩)))))))

def G61 (c:G4):Option Bool:=
 each (fun y27 i27 (s27:Unit) nx27=>
  wrp (c.Tiers - 1) fun v33=>
  bnd (G39 [(Hj.mk y27 0 v33)]) fun r34=>
  bnd (bif ((!(!r34))&&(decide (0 < (i27:Int)))) then some (IntKind.i64.wrap ((i27:Int) - 1)) else some 0) fun v35=>
  bnd (bif ((!(!r34))&&(decide (0 < (i27:Int)))) then Q3 c.Plugs v35 some else some default) fun y36=>
  bif ((!r34)||((decide (0 < (i27:Int)))&&(decide (y27≤y36)))) then
  (some false)
  else
  (nx27 ()))
 (fun(s27:Unit)=>
  bnd (G39 [(Hj.mk c.Bay 0 39),(Hj.mk c.Row 0 30),(Hj.mk c.Tiers 1 10),(Hj.mk c.Height 0 40000),(Hj.mk c.Kilos20 0 500000000),(Hj.mk c.Kilos40 0 500000000),(Hj.mk c.Lash 0 1000000000000),(Hj.mk c.X (-500000) 500000),(Hj.mk c.Y (-500000) 500000),(Hj.mk c.Z (-500000) 500000)]) fun r39=>
  some r39) c.Plugs 0 ()
theorem J8a (c:G4) (r:Bool) (h:G61 c=some r):Pure Tryz.prog 150 [.agg (G4.cs c)] (·=BL r):=by
 unfold G61 at h
 refine H1 [.tmp 2] Tryz.func150 O O (G7 fun K1 hK1=>G2 (JLh (.ptr 1090 0) (Jy (u:=.agg (G4.cs c)) (cs:=(G4.cs c)) 1090 O O O O O) O (JLh (BL false) (G9 O O) O (G8 (hK1 _ _ (Gx [(1,Eh c)] [] 1090 rfl rfl rfl G rfl (by exact⟨.ptr,G⟩) (G7 fun K2 hK2=>G2 (JLh (.fn 241 []) (G9 O O) O (G8 (hK2 _ _ (G7 (fun K3 hK3=>?_))))))))))))
 refine G7 fun K4 hK4=>G2 (JLh (.dptr [E1 c.Plugs,G0 c.X,G0 c.Y,G0 c.Z]) (Gb Qp O O O) O (JLh (E1 c.Plugs) (Gh Hg O O O) O (H3 (f:=G0) (xs:=c.Plugs) H0 O O (fun hm8=>?_) O O O)))
 refine JLh (G0 0) (G5 O O) O (G8 (hK4 _ _ (Gk ?_)))
 obtain⟨b27,kx27,hb27,hkx27,h⟩:=Hw h
 refine Hc (fun i27 (s27:Unit)=>each b27 kx27 (List.drop i27 c.Plugs) i27 s27=some r) (fun i27 s27=>[(1,Eh c),(3,.fn 241 []),(7,E1 c.Plugs),(8,En c.Plugs.length),(9,En i27)]) (fun i27 s27=>[]) (fun i27=>c.Plugs.length - i27) 0 () h ⟨(by repeat' constructor),G,rfl⟩ ?_
 clear h
 intro i27 s27 hi27 K27 e27
 refine G7 fun K28 hK28=>G2 (JLh (BL (decide ((i27:Int) < (c.Plugs.length:Int)))) (J2 O O O) O (G8 (hK28 _ _ (G7 (fun K29 hK29=>Gn O (fun hb=>?_) (fun hb=>?_))))))
 ·
  have hk27:=Jc hb
  obtain⟨y27,nx27,hy27,hn27,h⟩:=Hn hi27 hk27
  replace h:=Yb hb27 h
  refine Gp (hK29 _ _ (G7 (fun K30 hK30=>Gk (G7 fun K31 hK31=>G2 (JLh (En i27) (G5 O O) O (JLh (.dptr [G0 y27]) (Gt (f:=G0) (xs:=c.Plugs) (y:=y27) O O O H0 hy27 O) O (JLh (G0 y27) (Gh Gd O O O) O (JLh (En i27) (G9 O O) O (JLh (G0 y27) (G9 O O) O (G8 (hK31 _ _ (G7 fun K32 hK32=>G2 (JLh (.fn 241 []) (G5 O O) O (JLh (G0 y27) (G5 O O) O (JLh (.dptr [G0 c.Tiers,G0 c.Height,G0 c.Kilos20,G0 c.Kilos40,G0 c.Lash,E1 c.Plugs,G0 c.X,G0 c.Y,G0 c.Z]) (Gb Z1 O O O) O (JLh (G0 c.Tiers) (Gh Gd O O O) O ?_))))))))))))))))
  obtain⟨v33,hv33,h⟩:=wrp_out h
  refine JLh (G0 v33) (Gcb hv33 O O O) O (JLh (.agg [G0 y27,G0 0,G0 v33]) (Jv (cs:=[G0 y27,G0 0,G0 v33]) [(0,1),(1,1),(2,1)] [G0 0,G0 0,G0 0] [.int .i64 0,.int .i64 0,.int .i64 0] Ye Zs ⟨.inl O,.inl O,.inl O,G⟩ O O) O (JLh (LS 3 Hj.av [(Hj.mk y27 0 v33)]) (Hm (xs:=[.agg [G0 y27,G0 0,G0 v33]]) O ⟨O,O,G⟩ Gcd H44 O O O O) O ?_))
  obtain⟨r34,hr34,h⟩:=Gf h
  refine JLh (BL r34) (G47 (args:=[LS 3 Hj.av [(Hj.mk y27 0 v33)]]) (caps:=[]) O O (H3a [(Hj.mk y27 0 v33)] r34 hr34) J1d ⟨O,O,G⟩ O) O (JLh (BL (!r34)) (Qv (b:=r34) O O) O (JLh (BL (!r34)) (G5 O O) O (Ga (u:=En i27) [] O O O .scf G (fun hc=>G5 O O) ?_)))
  refine Ga (u:=BL (decide (0 < (i27:Int)))) [(24,En i27)] O O O .scf ⟨.all id,G⟩ (fun hc=>G31 O O O) ?_
  refine Ga (u:=BL (decide (0 < (i27:Int)))) [(25,BL (decide (0 < (i27:Int))))] O O O .scf ⟨.all id,G⟩ (fun hc=>G5 O O) ?_
  refine Ga (u:=G0 y27) [] O O O .optt G (fun hc=>G5 O O) ?_
  refine Ga (u:=.dptr [E1 c.Plugs,G0 c.X,G0 c.Y,G0 c.Z]) [] O O O .optt G (fun hc=>Gb Qp O O O) ?_
  refine Ga (u:=E1 c.Plugs) [(28,.dptr [E1 c.Plugs,G0 c.X,G0 c.Y,G0 c.Z])] O O O .optt ⟨.all id,G⟩ (fun hc=>Gh Hg O O O) ?_
  refine Ga (u:=En i27) [] O O O .optt G (fun hc=>G5 O O) ?_
  obtain⟨v35,hv35,h⟩:=Gf h
  refine Ga (u:=G0 v35) [(30,En i27)] O O O .optt ⟨.all id,G⟩ (fun hc=>Gcb (Option.some.inj (Gz hc hv35)) O O O) ?_
  obtain⟨y36,hy36,h⟩:=Gf h
  refine Ga (u:=.dptr [G0 y36]) [(29,E1 c.Plugs),(31,G0 v35)] O O O .optt ⟨.all id,.all id,G⟩ (fun hc=>(match Jf (Gz hc hy36) with | ⟨_,hm_,hy_⟩=>Gt (f:=G0) (xs:=c.Plugs) (y:=y36) O O O H0 hy_ hm_)) ?_
  refine Ga (u:=G0 y36) [(32,.dptr [G0 y36])] O O O .optt ⟨.all id,G⟩ (fun hc=>Gh Gd O O O) ?_
  refine Ga (u:=BL (decide (y27≤y36))) [(27,G0 y27),(33,G0 y36)] O O O .optt ⟨.all id,.all id,G⟩ (fun hc=>H98 O O O) ?_
  refine Ga (u:=BL ((decide (0 < (i27:Int)))&&(decide (y27≤y36)))) [(26,BL (decide (0 < (i27:Int)))),(34,_)] O O O .scf ⟨.all id,.part,G⟩ (fun hc=>Hx O O O O) ?_
  refine JLh (BL ((!r34)||((decide (0 < (i27:Int)))&&(decide (y27≤y36))))) (Rn O O O O) O (G8 (hK32 _ _ (Gn O (fun hb=>?_) (fun hb=>?_))))
  ·
   replace h:=Gz hb h
   refine G7 fun K37 hK37=>G2 (JLh (BL false) (G9 O O) O (G8 (hK37 _ _ (Gu (⟨[BL false],[],G,O,⟨⟨_,O,.conv (.same O)⟩,G⟩,O,congrArg (fun r:Bool=>(BL r:AV)) (Option.some.inj h)⟩)))))
  ·
   replace h:=Hv hb h
   refine Gp (hK30 _ _ (G2 (JLh (G0 ((i27+1:Nat):Int)) (Hy (He hk27 hm8) O O O) O (JLh (G0 ((i27+1:Nat):Int)) (G5 O O) O (G8 (e27 _ _ (i27+1) () (app1 hn27 h) (by omega) ⟨(by repeat' constructor),G,rfl⟩))))))
 ·
  have h:=app1 hkx27 (Ho hi27 (H9 hb))
  refine Hk (hK3 _ _ ?_)
  refine G7 fun K38 hK38=>G2 (JLh (.fn 241 []) (G5 O O) O (JLh (Eh c) (Gb Z4 O O O) O (JLh (G0 c.Bay) (Gh Gd O O O) O (JLh (.agg [G0 c.Bay,G0 0,G0 39]) (Jv (cs:=[G0 c.Bay,G0 0,G0 39]) [(0,1),(1,1),(2,1)] [G0 0,G0 0,G0 0] [.int .i64 0,.int .i64 0,.int .i64 0] Ye Zs ⟨.inl O,.inl O,.inl O,G⟩ O O) O (JLh (.dptr [G0 c.Row,BL c.Deck,G0 c.Tiers,G0 c.Height,G0 c.Kilos20,G0 c.Kilos40,G0 c.Lash,E1 c.Plugs,G0 c.X,G0 c.Y,G0 c.Z]) (Gb Z3 O O O) O (JLh (G0 c.Row) (Gh Gd O O O) O (JLh (.agg [G0 c.Row,G0 0,G0 30]) (Jv (cs:=[G0 c.Row,G0 0,G0 30]) [(0,1),(1,1),(2,1)] [G0 0,G0 0,G0 0] [.int .i64 0,.int .i64 0,.int .i64 0] Ye Zs ⟨.inl O,.inl O,.inl O,G⟩ O O) O (JLh (.dptr [G0 c.Tiers,G0 c.Height,G0 c.Kilos20,G0 c.Kilos40,G0 c.Lash,E1 c.Plugs,G0 c.X,G0 c.Y,G0 c.Z]) (Gb Z1 O O O) O (JLh (G0 c.Tiers) (Gh Gd O O O) O (JLh (.agg [G0 c.Tiers,G0 1,G0 10]) (Jv (cs:=[G0 c.Tiers,G0 1,G0 10]) [(0,1),(1,1),(2,1)] [G0 0,G0 0,G0 0] [.int .i64 0,.int .i64 0,.int .i64 0] Ye Zs ⟨.inl O,.inl O,.inl O,G⟩ O O) O (JLh (.dptr [G0 c.Height,G0 c.Kilos20,G0 c.Kilos40,G0 c.Lash,E1 c.Plugs,G0 c.X,G0 c.Y,G0 c.Z]) (Gb Zu O O O) O (JLh (G0 c.Height) (Gh Gd O O O) O (JLh (.agg [G0 c.Height,G0 0,G0 40000]) (Jv (cs:=[G0 c.Height,G0 0,G0 40000]) [(0,1),(1,1),(2,1)] [G0 0,G0 0,G0 0] [.int .i64 0,.int .i64 0,.int .i64 0] Ye Zs ⟨.inl O,.inl O,.inl O,G⟩ O O) O ?_)))))))))))))
  refine JLh (.dptr [G0 c.Kilos20,G0 c.Kilos40,G0 c.Lash,E1 c.Plugs,G0 c.X,G0 c.Y,G0 c.Z]) (Gb G93 O O O) O (JLh (G0 c.Kilos20) (Gh Gd O O O) O (JLh (.agg [G0 c.Kilos20,G0 0,G0 500000000]) (Jv (cs:=[G0 c.Kilos20,G0 0,G0 500000000]) [(0,1),(1,1),(2,1)] [G0 0,G0 0,G0 0] [.int .i64 0,.int .i64 0,.int .i64 0] Ye Zs ⟨.inl O,.inl O,.inl O,G⟩ O O) O (JLh (.dptr [G0 c.Kilos40,G0 c.Lash,E1 c.Plugs,G0 c.X,G0 c.Y,G0 c.Z]) (Gb G92 O O O) O (JLh (G0 c.Kilos40) (Gh Gd O O O) O (JLh (.agg [G0 c.Kilos40,G0 0,G0 500000000]) (Jv (cs:=[G0 c.Kilos40,G0 0,G0 500000000]) [(0,1),(1,1),(2,1)] [G0 0,G0 0,G0 0] [.int .i64 0,.int .i64 0,.int .i64 0] Ye Zs ⟨.inl O,.inl O,.inl O,G⟩ O O) O (JLh (.dptr [G0 c.Lash,E1 c.Plugs,G0 c.X,G0 c.Y,G0 c.Z]) (Gb G91 O O O) O (JLh (G0 c.Lash) (Gh Gd O O O) O (JLh (.agg [G0 c.Lash,G0 0,G0 1000000000000]) (Jv (cs:=[G0 c.Lash,G0 0,G0 1000000000000]) [(0,1),(1,1),(2,1)] [G0 0,G0 0,G0 0] [.int .i64 0,.int .i64 0,.int .i64 0] Ye Zs ⟨.inl O,.inl O,.inl O,G⟩ O O) O (JLh (.dptr [G0 c.X,G0 c.Y,G0 c.Z]) (Gb G90 O O O) O (JLh (G0 c.X) (Gh Gd O O O) O (JLh (.agg [G0 c.X,G0 (-500000),G0 500000]) (Jv (cs:=[G0 c.X,G0 (-500000),G0 500000]) [(0,1),(1,1),(2,1)] [G0 0,G0 0,G0 0] [.int .i64 0,.int .i64 0,.int .i64 0] Ye Zs ⟨.inl O,.inl O,.inl O,G⟩ O O) O (JLh (.dptr [G0 c.Y,G0 c.Z]) (Gb G7a O O O) O (JLh (G0 c.Y) (Gh Gd O O O) O ?_)))))))))))))
  refine JLh (.agg [G0 c.Y,G0 (-500000),G0 500000]) (Jv (cs:=[G0 c.Y,G0 (-500000),G0 500000]) [(0,1),(1,1),(2,1)] [G0 0,G0 0,G0 0] [.int .i64 0,.int .i64 0,.int .i64 0] Ye Zs ⟨.inl O,.inl O,.inl O,G⟩ O O) O (JLh (.dptr [G0 c.Z]) (Gb G79 O O O) O (JLh (G0 c.Z) (Gh Gd O O O) O (JLh (.agg [G0 c.Z,G0 (-500000),G0 500000]) (Jv (cs:=[G0 c.Z,G0 (-500000),G0 500000]) [(0,1),(1,1),(2,1)] [G0 0,G0 0,G0 0] [.int .i64 0,.int .i64 0,.int .i64 0] Ye Zs ⟨.inl O,.inl O,.inl O,G⟩ O O) O (JLh (LS 3 Hj.av [(Hj.mk c.Bay 0 39),(Hj.mk c.Row 0 30),(Hj.mk c.Tiers 1 10),(Hj.mk c.Height 0 40000),(Hj.mk c.Kilos20 0 500000000),(Hj.mk c.Kilos40 0 500000000),(Hj.mk c.Lash 0 1000000000000),(Hj.mk c.X (-500000) 500000),(Hj.mk c.Y (-500000) 500000),(Hj.mk c.Z (-500000) 500000)]) (Hm (xs:=[.agg [G0 c.Bay,G0 0,G0 39],.agg [G0 c.Row,G0 0,G0 30],.agg [G0 c.Tiers,G0 1,G0 10],.agg [G0 c.Height,G0 0,G0 40000],.agg [G0 c.Kilos20,G0 0,G0 500000000],.agg [G0 c.Kilos40,G0 0,G0 500000000],.agg [G0 c.Lash,G0 0,G0 1000000000000],.agg [G0 c.X,G0 (-500000),G0 500000],.agg [G0 c.Y,G0 (-500000),G0 500000],.agg [G0 c.Z,G0 (-500000),G0 500000]]) O ⟨O,O,O,O,O,O,O,O,O,O,O,O,O,O,O,O,O,O,O,O,G⟩ Gcd H44 O O O O) O ?_))))
  obtain⟨r39,hr39,h⟩:=Gf h
  refine JLh (BL r39) (G47 (args:=[LS 3 Hj.av [(Hj.mk c.Bay 0 39),(Hj.mk c.Row 0 30),(Hj.mk c.Tiers 1 10),(Hj.mk c.Height 0 40000),(Hj.mk c.Kilos20 0 500000000),(Hj.mk c.Kilos40 0 500000000),(Hj.mk c.Lash 0 1000000000000),(Hj.mk c.X (-500000) 500000),(Hj.mk c.Y (-500000) 500000),(Hj.mk c.Z (-500000) 500000)]]) (caps:=[]) O O (H3a [(Hj.mk c.Bay 0 39),(Hj.mk c.Row 0 30),(Hj.mk c.Tiers 1 10),(Hj.mk c.Height 0 40000),(Hj.mk c.Kilos20 0 500000000),(Hj.mk c.Kilos40 0 500000000),(Hj.mk c.Lash 0 1000000000000),(Hj.mk c.X (-500000) 500000),(Hj.mk c.Y (-500000) 500000),(Hj.mk c.Z (-500000) 500000)] r39 hr39) J1d ⟨O,O,G⟩ O) O (JLh (BL r39) (G9 O O) O (G8 (hK38 _ _ (Gu ?_))))
  exact⟨[BL r39],[],G,O,⟨⟨_,O,.conv (.same O)⟩,G⟩,O,congrArg (fun r:Bool=>(BL r:AV)) (Option.some.inj h)⟩

def G9b (s:Hb) (Rp:Bool→Prop):Option Prop:=
 bif (((decide ((s.Columns.length:Int) < 1))||(decide (200 < (s.Columns.length:Int))))||(decide (40 < (s.Covers.length:Int)))) then
 (some (Rp false))
 else
 (each (fun y68 i68 (s68:(Hu Hd Int)) nx68=>
   jp (fun kj74=>
    bif y68.Deck then
    (kj74 1)
    else
    (kj74 0)) fun(j74:Int)=>
   bnd (some (Hu.get s68 (Hd.mk y68.Bay y68.Row j74) 0)) fun v77=>
   G32 (v77+1) fun v78=>
   bnd (G61 y68) fun r80=>
   bif (!r80) then
   (some (Rp false))
   else
   (nx68 (Hu.put s68 (Hd.mk y68.Bay y68.Row j74) v78)))
  (fun(s68:(Hu Hd Int))=>
   each (fun y84 i84 (s84:(Hu Hd Int)) nx84=>
    bif (((decide (y84.Bay < 0))||(decide (40≤y84.Bay)))||(decide ((y84.Rows.length:Int)=0))) then
    (some (Rp false))
    else
    (each (fun y157 i157 (s157:(Hu Hd Int)) nx157=>
      bnd (bif ((!((decide (y157 < 0))||(decide (30 < y157))))&&(decide (0 < (i157:Int)))) then G32 ((i157:Int) - 1) some else some 0) fun v164=>
      bnd (bif ((!((decide (y157 < 0))||(decide (30 < y157))))&&(decide (0 < (i157:Int)))) then Q3 y84.Rows v164 some else some default) fun y165=>
      bif (((decide (y157 < 0))||(decide (30 < y157)))||((decide (0 < (i157:Int)))&&(decide (y157≤y165)))) then
      (some (Rp false))
      else
      (bnd (some (Hu.get s157 (Hd.mk y84.Bay y157 2) 0)) fun v167=>
       G32 (v167+1) fun v168=>
       nx157 (Hu.put s157 (Hd.mk y84.Bay y157 2) v168)))
     (fun(s157:(Hu Hd Int))=>
      nx84 s157) y84.Rows 0 s84))
   (fun(s84:(Hu Hd Int))=>
    eachM (fun(x176:Hd×Int) (s176:Unit) nx176=>
     bif decide (1 < x176.2) then
     (lft (some (Rp false)))
     else
     (nx176 ()))
    (fun(s176:Unit)=>
     some (Rp true)) (Hu.l s84) ()) s.Covers 0 s68) s.Columns 0 (Hu.empty:Hu Hd Int))
def Gdc (s:Hb):Option Bool:=
 bif (((decide ((s.Columns.length:Int) < 1))||(decide (200 < (s.Columns.length:Int))))||(decide (40 < (s.Covers.length:Int)))) then
 (some (id false))
 else
 (each (fun y68 i68 (s68:(Hu Hd Int)) nx68=>
   jp (fun kj74=>
    bif y68.Deck then
    (kj74 1)
    else
    (kj74 0)) fun(j74:Int)=>
   bnd (some (Hu.get s68 (Hd.mk y68.Bay y68.Row j74) 0)) fun v77=>
   G32 (v77+1) fun v78=>
   bnd (G61 y68) fun r80=>
   bif (!r80) then
   (some (id false))
   else
   (nx68 (Hu.put s68 (Hd.mk y68.Bay y68.Row j74) v78)))
  (fun(s68:(Hu Hd Int))=>
   each (fun y84 i84 (s84:(Hu Hd Int)) nx84=>
    bif (((decide (y84.Bay < 0))||(decide (40≤y84.Bay)))||(decide ((y84.Rows.length:Int)=0))) then
    (some (id false))
    else
    (each (fun y157 i157 (s157:(Hu Hd Int)) nx157=>
      bnd (bif ((!((decide (y157 < 0))||(decide (30 < y157))))&&(decide (0 < (i157:Int)))) then G32 ((i157:Int) - 1) some else some 0) fun v164=>
      bnd (bif ((!((decide (y157 < 0))||(decide (30 < y157))))&&(decide (0 < (i157:Int)))) then Q3 y84.Rows v164 some else some default) fun y165=>
      bif (((decide (y157 < 0))||(decide (30 < y157)))||((decide (0 < (i157:Int)))&&(decide (y157≤y165)))) then
      (some (id false))
      else
      (bnd (some (Hu.get s157 (Hd.mk y84.Bay y157 2) 0)) fun v167=>
       G32 (v167+1) fun v168=>
       nx157 (Hu.put s157 (Hd.mk y84.Bay y157 2) v168)))
     (fun(s157:(Hu Hd Int))=>
      nx84 s157) y84.Rows 0 s84))
   (fun(s84:(Hu Hd Int))=>
    runM (fun(x176:Hd×Int) (s176:Unit) nx176=>
     bif decide (1 < x176.2) then
     (lft (some (id false)))
     else
     (nx176 ()))
    (fun(s176:Unit)=>
     some (id true)) (Hu.l s84) ()) s.Covers 0 s68) s.Columns 0 (Hu.empty:Hu Hd Int))
theorem J8b (s:Hb) (Rp:Bool→Prop) (p:Prop) (h:G9b s Rp=some p) (hp:p):Pure Tryz.prog 71 [.agg (Hb.cs s)] (fun av=>∃ r,Rp r∧av=BL r):=by
 unfold G9b at h
 refine H1 [.tmp 2] Tryz.func71 O O (G7 fun K1 hK1=>G2 (JLh (.ptr 1042 0) (Jy (u:=.agg (Hb.cs s)) (cs:=(Hb.cs s)) 1042 O O O O O) O (JLh (BL false) (G9 O O) O (G8 (hK1 _ _ ?_)))))
 refine Gx [(1,Ee s)] [] 1042 rfl rfl rfl G rfl (by exact⟨.ptr,G⟩) (G7 (fun K2 hK2=>G7 fun K3 hK3=>G2 (JLh (Ee s) (Gb Hi O O O) O (JLh (E3 s.Columns) (Gh Hq O O O) O (H3 (f:=G4.av) (xs:=s.Columns) H7 O O (fun hm15=>?_) O O O)))))
 refine JLh (BL (decide ((s.Columns.length:Int) < 1))) (J2 O O O) O (JLh (BL (decide ((s.Columns.length:Int) < 1))) (G5 O O) O (Ga (u:=Ee s) [] O O O .scf G (fun hc=>Gb Hi O O O) ?_))
 refine Ga (u:=E3 s.Columns) [(18,Ee s)] O O O .scf ⟨.all id,G⟩ (fun hc=>Gh Hq O O O) ?_
 refine Ga (u:=En s.Columns.length) [(19,E3 s.Columns)] O O O .scf ⟨.all id,G⟩ (fun hc=>Qt (f:=G4.av) (xs:=s.Columns) H7 O O) ?_
 refine Ga (u:=BL (decide (200 < (s.Columns.length:Int)))) [(20,En s.Columns.length)] O O O .scf ⟨.all id,G⟩ (fun hc=>G31 O O O) ?_
 refine JLh (BL ((decide ((s.Columns.length:Int) < 1))||(decide (200 < (s.Columns.length:Int))))) (Rn O O O O) O (JLh (BL ((decide ((s.Columns.length:Int) < 1))||(decide (200 < (s.Columns.length:Int))))) (G5 O O) O (Ga (u:=.dptr [E4 s.Covers,G0 s.Light.Kilos,G0 s.Light.X,G0 s.Light.Y,G0 s.Light.Z,E6 s.Rows,E5 s.Frames,E7 s.Tanks,G0 s.G3.Tolerance,G0 s.G3.Trim,G0 s.G3.List_,G0 s.G3.Stability]) [] O O O .scf G (fun hc=>Gb Jz O O O) ?_))
 refine Ga (u:=E4 s.Covers) [(24,.dptr [E4 s.Covers,G0 s.Light.Kilos,G0 s.Light.X,G0 s.Light.Y,G0 s.Light.Z,E6 s.Rows,E5 s.Frames,E7 s.Tanks,G0 s.G3.Tolerance,G0 s.G3.Trim,G0 s.G3.List_,G0 s.G3.Stability])] O O O .scf ⟨.all id,G⟩ (fun hc=>Gh Qh O O O) ?_
 refine Ga (u:=En s.Covers.length) [(25,E4 s.Covers)] O O O .scf ⟨.all id,G⟩ (fun hc=>Qt (f:=Gg.av) (xs:=s.Covers) Hp O O) ?_
 refine Ga (u:=BL (decide (40 < (s.Covers.length:Int)))) [(26,En s.Covers.length)] O O O .scf ⟨.all id,G⟩ (fun hc=>G31 O O O) ?_
 refine JLh (BL (((decide ((s.Columns.length:Int) < 1))||(decide (200 < (s.Columns.length:Int))))||(decide (40 < (s.Covers.length:Int))))) (Rn O O O O) O (G8 (hK3 _ _ (Gn O (fun hb=>?_) (fun hb=>?_))))
 ·
  replace h:=Gz hb h
  refine G7 fun K4 hK4=>G2 (JLh (BL false) (G9 O O) O (G8 (hK4 _ _ (Gu (⟨[BL false],[],G,O,⟨⟨_,O,.conv (.same O)⟩,G⟩,O,false,Eq.mpr (Option.some.inj h) hp,O⟩)))))
 ·
  replace h:=Hv hb h
  refine Gp (hK2 _ _ (G7 fun K5 hK5=>G2 (JLh (.mp 1045) (Hce 1045 Hd.kv G0 O O) O (JLh (.mp 1045) (G9 O O) O (G8 (hK5 _ _ (G7 (fun K6 hK6=>G7 fun K7 hK7=>G2 (JLh (Ee s) (Gb Hi O O O) O (JLh (E3 s.Columns) (Gh Hq O O O) O (H3 (f:=G4.av) (xs:=s.Columns) H7 O O (fun hm32=>?_) O O O)))))))))))
  refine JLh (G0 0) (G5 O O) O (G8 (hK7 _ _ (Gk ?_)))
  obtain⟨b68,kx68,hb68,hkx68,h⟩:=Hw h
  refine Hc (fun i68 (s68:(Hu Hd Int))=>each b68 kx68 (List.drop i68 s.Columns) i68 s68=some p) (fun i68 s68=>[(1,Ee s),(3,.mp 1045),(31,E3 s.Columns),(32,En s.Columns.length),(33,En i68)]) (fun i68 s68=>[(1045,MP 240 Hd.kv G0 s68)]) (fun i68=>s.Columns.length - i68) 0 (Hu.empty:Hu Hd Int) h ⟨(by repeat' constructor),⟨⟨_,rfl,.map⟩,G⟩,rfl⟩ ?_
  clear h
  intro i68 s68 hi68 K68 e68
  refine G7 fun K69 hK69=>G2 (JLh (BL (decide ((i68:Int) < (s.Columns.length:Int)))) (J2 O O O) O (G8 (hK69 _ _ (G7 (fun K70 hK70=>Gn O (fun hb=>?_) (fun hb=>?_))))))
  ·
   have hk68:=Jc hb
   obtain⟨y68,nx68,hy68,hn68,h⟩:=Hn hi68 hk68
   replace h:=Yb hb68 h
   refine Gp (hK70 _ _ (G7 (fun K71 hK71=>Gk (G7 fun K72 hK72=>G2 (JLh (Eh y68) (Gt (f:=G4.av) (xs:=s.Columns) (y:=y68) O O O H7 hy68 O) O (JLh (.agg (G4.cs y68)) (Gj Rr O O O) O (JLh (.ptr 1043 0) (Jb 1043 12 G5e O O) O (J4 (u:=.junk) (Ht (u:=.agg (G4.cs y68)) (ds:=(G4.cs y68)) Gb5 O O O O O O O O) (G8 (hK72 _ _ ?_))))))))))
   refine Gx [(1,Ee s),(3,.mp 1045),(5,Eh y68),(31,E3 s.Columns),(32,En s.Columns.length),(33,En i68)] [(1045,MP 240 Hd.kv G0 s68)] 1043 rfl rfl rfl ⟨⟨_,rfl,.map⟩,G⟩ rfl (by repeat' (first | exact .ptr | constructor)) (G7 fun K73 hK73=>G2 (JLh (G0 0) (G9 O O) O (G8 (hK73 _ _ ?_))))
   obtain⟨kj74,hkj74,h⟩:=G69 h
   refine G33 (fun j74:Int=>kj74 j74=some p) (fun j74=>[(1,Ee s),(3,.mp 1045),(5,Eh y68),(6,G0 j74),(31,E3 s.Columns),(32,En s.Columns.length),(33,En i68)]) (fun j74=>[(1045,MP 240 Hd.kv G0 s68)]) (fun Kj74 ej74=>?_) ?_
   ·
    refine G7 fun K75 hK75=>G2 (JLh (.dptr ((G4.cs y68).drop 2)) (Gb Z2 O O O) O (JLh (BL y68.Deck) (Gh Rq O O O) O (G8 (hK75 _ _ (Gn O (fun hb=>?_) (fun hb=>?_))))))
    ·
     replace h:=Gz hb h
     refine G2 (JLh (G0 1) (G9 O O) O (G8 (ej74 _ _ 1 h ⟨(by repeat' constructor),⟨⟨_,rfl,.map⟩,G⟩,rfl⟩)))
    ·
     replace h:=Hv hb h
     refine Gp (ej74 _ _ 0 h ⟨(by repeat' constructor),⟨⟨_,rfl,.map⟩,G⟩,rfl⟩)
   ·intro j74 h
    replace h:=app1 hkj74 h
    refine G7 (fun K76 hK76=>Hab (l':=[(1,Ee s),(3,.mp 1045),(5,Eh y68),(6,G0 j74),(31,E3 s.Columns),(32,En s.Columns.length),(33,En i68)]) (L':=[(1045,MP 240 Hd.kv G0 s68)]) ⟨(by repeat' constructor),⟨⟨_,rfl,.map⟩,G⟩,rfl⟩ ?_)
    obtain⟨v77,hv77,h⟩:=Gf h
    obtain⟨v78,hv78,h⟩:=Qw h
    refine Q6 [9,11] [0,0,0,0,0,0,0,0,0,0,1,0] [0,0,0,0,0,0,0,1,1,0,1,0] [[(1045,MP 240 Hd.kv G0 s68)],((1045,MI 240 Hd.kv G0 s68 (Hd.mk y68.Bay y68.Row j74) 0)::[(1045,MP 240 Hd.kv G0 s68)]),((1045,MP 240 Hd.kv G0 (Hu.put s68 (Hd.mk y68.Bay y68.Row j74) v78))::((1045,MI 240 Hd.kv G0 s68 (Hd.mk y68.Bay y68.Row j74) 0)::[(1045,MP 240 Hd.kv G0 s68)]))] Jk (by kernel_rfl) rfl rfl ?_
    refine Gc (u:=.mp 1045) O O ⟨Gw (G5 O O) O,G⟩ (Gc (u:=Eh y68) O O ⟨Gw (Gb Z4 O O O) O,G⟩ (Gc (u:=G0 y68.Bay) O O ⟨Gw (Gh Gd O O O) O,G⟩ (Gc (u:=.dptr ((G4.cs y68).drop 1)) O O ⟨Gw (Gb Z3 O O O) O,G⟩ (Gc (u:=G0 y68.Row) O O ⟨Gw (Gh Gd O O O) O,G⟩ (Gc (u:=G0 j74) O O ⟨Gw (G5 O O) O,G⟩ (Gc (u:=.agg [G0 y68.Bay,G0 y68.Row,G0 j74]) O O ⟨Gw (J9a (cs:=[G0 y68.Bay,G0 y68.Row,G0 j74]) [.int .i64 0,.int .i64 0,.int .i64 0] J6a J12 O O) O,G⟩ (Gc (u:=G0 v77) O O ⟨Gw (((Option.some.inj hv77) ▸ J98 (av:=G0) (m:=s68) (a:=(Hd.mk y68.Bay y68.Row j74)) 0 (.int .i64 0) O O O O Hf7 G7d H9a O)) O,Gw (((Option.some.inj hv77) ▸ J97 (av:=G0) (m:=s68) (a:=(Hd.mk y68.Bay y68.Row j74)) 0 (.int .i64 0) O O O O Hf7 G7d H9a O)) O,G⟩ (Gc (u:=G0 v78) O O ⟨Gw (Hy hv78 O O O) O,Gw (Hy hv78 O O O) O,G⟩ (D_w (u:=.tup [.junk,G0 (G25 (Hu.l s68) (Hd.mk y68.Bay y68.Row j74):Int)]) O O O O (Gw (J3e (m:=s68) (a:=(Hd.mk y68.Bay y68.Row j74)) 0 (.int .i64 0) O O O O Hf7 G7d H9a O) O) (Gc (u:=G0 (G25 (Hu.l s68) (Hd.mk y68.Bay y68.Row j74):Int)) O O ⟨Gw (J1 O O O) O,G⟩ (D_w0 (u:=.junk) O O O O (Gw (Hb7 (m:=s68) (a:=(Hd.mk y68.Bay y68.Row j74)) (v:=v78) 0 O O O O O O) O) (Yz ?_))))))))))))
    refine hK76 _ _ (G7 fun K79 hK79=>G2 (JLh (.agg (G4.cs y68)) (Gj Rr O O O) O ?_))
    obtain⟨r80,hr80,h⟩:=Gf h
    refine JLh (BL r80) (Gq (args:=[.agg (G4.cs y68)]) O (J8a y68 r80 hr80) Je1 ⟨O,O,G⟩) O (JLh (BL (!r80)) (Qv (b:=r80) O O) O (G8 (hK79 _ _ (Gn O (fun hb=>?_) (fun hb=>?_)))))
    ·
     replace h:=Gz hb h
     refine G7 fun K81 hK81=>G2 (JLh (BL false) (G9 O O) O (G8 (hK81 _ _ (Gu (⟨[BL false],[],G,O,⟨⟨_,O,.conv (.same O)⟩,G⟩,O,false,Eq.mpr (Option.some.inj h) hp,O⟩)))))
    ·
     replace h:=Hv hb h
     refine Gp (hK71 _ _ (G2 (JLh (G0 ((i68+1:Nat):Int)) (Hy (He hk68 hm32) O O O) O (JLh (G0 ((i68+1:Nat):Int)) (G5 O O) O (G8 (e68 _ _ (i68+1) (Hu.put s68 (Hd.mk y68.Bay y68.Row j74) v78) (app1 hn68 h) (by omega) ⟨(by repeat' constructor),⟨⟨_,rfl,.map⟩,G⟩,rfl⟩))))))
  ·
   have h:=app1 hkx68 (Ho hi68 (H9 hb))
   refine Hk (hK6 _ _ (G7 (fun K82 hK82=>G7 fun K83 hK83=>G2 (JLh (.dptr [E4 s.Covers,G0 s.Light.Kilos,G0 s.Light.X,G0 s.Light.Y,G0 s.Light.Z,E6 s.Rows,E5 s.Frames,E7 s.Tanks,G0 s.G3.Tolerance,G0 s.G3.Trim,G0 s.G3.List_,G0 s.G3.Stability]) (Gb Jz O O O) O (JLh (E4 s.Covers) (Gh Qh O O O) O (H3 (f:=Gg.av) (xs:=s.Covers) Hp O O (fun hm56=>?_) O O O))))))
   refine JLh (G0 0) (G5 O O) O (G8 (hK83 _ _ (Gk ?_)))
   obtain⟨b84,kx84,hb84,hkx84,h⟩:=Hw h
   refine Hc (fun i84 (s84:(Hu Hd Int))=>each b84 kx84 (List.drop i84 s.Covers) i84 s84=some p) (fun i84 s84=>[(3,.mp 1045),(55,E4 s.Covers),(56,En s.Covers.length),(57,En i84)]) (fun i84 s84=>[(1045,MP 240 Hd.kv G0 s84)]) (fun i84=>s.Covers.length - i84) 0 s68 h ⟨(by repeat' constructor),⟨⟨_,rfl,.map⟩,G⟩,rfl⟩ ?_
   clear h
   intro i84 s84 hi84 K84 e84
   refine G7 fun K85 hK85=>G2 (JLh (BL (decide ((i84:Int) < (s.Covers.length:Int)))) (J2 O O O) O (G8 (hK85 _ _ (G7 (fun K86 hK86=>Gn O (fun hb=>?_) (fun hb=>?_))))))
   ·
    have hk84:=Jc hb
    obtain⟨y84,nx84,hy84,hn84,h⟩:=Hn hi84 hk84
    replace h:=Yb hb84 h
    refine Gp (hK86 _ _ (G7 (fun K87 hK87=>Gk (G7 fun K88 hK88=>G2 (JLh (.dptr [G0 y84.Bay,E1 y84.Rows]) (Gt (f:=Gg.av) (xs:=s.Covers) (y:=y84) O O O Hp hy84 O) O (JLh (.agg [G0 y84.Bay,E1 y84.Rows]) (Gj Rh O O O) O (JLh (.ptr 1044 0) (Jb 1044 2 G20 O O) O (J4 (u:=.junk) (Ht (u:=.agg [G0 y84.Bay,E1 y84.Rows]) (ds:=[G0 y84.Bay,E1 y84.Rows]) G54 O O O O O O O O) (G8 (hK88 _ _ (Gx [(3,.mp 1045),(8,.dptr [G0 y84.Bay,E1 y84.Rows]),(55,E4 s.Covers),(56,En s.Covers.length),(57,En i84)] [(1045,MP 240 Hd.kv G0 s84)] 1044 rfl rfl rfl ⟨⟨_,rfl,.map⟩,G⟩ rfl (by repeat' (first | exact .ptr | constructor)) (G7 (fun K89 hK89=>?_)))))))))))))
    refine G7 fun K90 hK90=>G2 (JLh (.dptr [G0 y84.Bay,E1 y84.Rows]) (Gb Yf O O O) O (JLh (G0 y84.Bay) (Gh Gd O O O) O (JLh (BL (decide (y84.Bay < 0))) (J2 O O O) O (JLh (BL (decide (y84.Bay < 0))) (G5 O O) O (Ga (u:=.dptr [G0 y84.Bay,E1 y84.Rows]) [] O O O .scf G (fun hc=>Gb Yf O O O) ?_)))))
    refine Ga (u:=G0 y84.Bay) [(65,.dptr [G0 y84.Bay,E1 y84.Rows])] O O O .scf ⟨.all id,G⟩ (fun hc=>Gh Gd O O O) ?_
    refine Ga (u:=BL (decide (40≤y84.Bay))) [(66,G0 y84.Bay)] O O O .scf ⟨.all id,G⟩ (fun hc=>G29 O O O) ?_
    refine JLh (BL ((decide (y84.Bay < 0))||(decide (40≤y84.Bay)))) (Rn O O O O) O (JLh (BL ((decide (y84.Bay < 0))||(decide (40≤y84.Bay)))) (G5 O O) O (Ga (u:=.dptr [E1 y84.Rows]) [] O O O .scf G (fun hc=>Gb Jr O O O) ?_))
    refine Ga (u:=E1 y84.Rows) [(70,.dptr [E1 y84.Rows])] O O O .scf ⟨.all id,G⟩ (fun hc=>Gh Hg O O O) ?_
    refine Ga (u:=En y84.Rows.length) [(71,E1 y84.Rows)] O O O .scf ⟨.all id,G⟩ (fun hc=>Qt (f:=G0) (xs:=y84.Rows) H0 O O) ?_
    refine Ga (u:=BL (decide ((y84.Rows.length:Int)=0))) [(72,En y84.Rows.length)] O O O .scf ⟨.all id,G⟩ (fun hc=>Jx O O O) ?_
    refine JLh (BL (((decide (y84.Bay < 0))||(decide (40≤y84.Bay)))||(decide ((y84.Rows.length:Int)=0)))) (Rn O O O O) O (G8 (hK90 _ _ (Gn O (fun hb=>?_) (fun hb=>?_))))
    ·
     replace h:=Gz hb h
     refine G7 fun K91 hK91=>G2 (JLh (BL false) (G9 O O) O (G8 (hK91 _ _ (Gu (⟨[BL false],[],G,O,⟨⟨_,O,.conv (.same O)⟩,G⟩,O,false,Eq.mpr (Option.some.inj h) hp,O⟩)))))
    ·
     replace h:=Hv hb h
     refine Gp (hK89 _ _ (G7 fun K92 hK92=>G2 (JLh (.dptr [E1 y84.Rows]) (Gb Jr O O O) O (JLh (E1 y84.Rows) (Gh Hg O O O) O (H3 (f:=G0) (xs:=y84.Rows) H0 O O (fun hm77=>?_) O O O)))))
     refine JLh (G0 0) (G5 O O) O (G8 (hK92 _ _ (Gk ?_)))
     obtain⟨b157,kx157,hb157,hkx157,h⟩:=Hw h
     refine Hc (fun i157 (s157:(Hu Hd Int))=>each b157 kx157 (List.drop i157 y84.Rows) i157 s157=some p) (fun i157 s157=>[(3,.mp 1045),(8,.dptr [G0 y84.Bay,E1 y84.Rows]),(55,E4 s.Covers),(56,En s.Covers.length),(57,En i84),(76,E1 y84.Rows),(77,En y84.Rows.length),(78,En i157)]) (fun i157 s157=>[(1045,MP 240 Hd.kv G0 s157)]) (fun i157=>y84.Rows.length - i157) 0 s84 h ⟨(by repeat' constructor),⟨⟨_,rfl,.map⟩,G⟩,rfl⟩ ?_
     clear h
     intro i157 s157 hi157 K157 e157
     refine G7 fun K158 hK158=>G2 (JLh (BL (decide ((i157:Int) < (y84.Rows.length:Int)))) (J2 O O O) O (G8 (hK158 _ _ (G7 (fun K159 hK159=>Gn O (fun hb=>?_) (fun hb=>?_))))))
     ·
      have hk157:=Jc hb
      obtain⟨y157,nx157,hy157,hn157,h⟩:=Hn hi157 hk157
      replace h:=Yb hb157 h
      refine Gp (hK159 _ _ (G7 (fun K160 hK160=>Gk (G7 fun K161 hK161=>G2 (JLh (En i157) (G5 O O) O (JLh (.dptr [G0 y157]) (Gt (f:=G0) (xs:=y84.Rows) (y:=y157) O O O H0 hy157 O) O (JLh (G0 y157) (Gh Gd O O O) O (JLh (En i157) (G9 O O) O (JLh (G0 y157) (G9 O O) O (G8 (hK161 _ _ (G7 (fun K162 hK162=>G7 fun K163 hK163=>G2 (JLh (G0 y157) (G5 O O) O (JLh (BL (decide (y157 < 0))) (J2 O O O) O (JLh (BL (decide (y157 < 0))) (G5 O O) O (Ga (u:=G0 y157) [] O O O .scf G (fun hc=>G5 O O) ?_)))))))))))))))))
      refine Ga (u:=BL (decide (30 < y157))) [(86,G0 y157)] O O O .scf ⟨.all id,G⟩ (fun hc=>G31 O O O) ?_
      refine JLh (BL ((decide (y157 < 0))||(decide (30 < y157)))) (Rn O O O O) O (JLh (BL ((decide (y157 < 0))||(decide (30 < y157)))) (G5 O O) O (Ga (u:=En i157) [] O O O .scf G (fun hc=>G5 O O) ?_))
      refine Ga (u:=BL (decide (0 < (i157:Int)))) [(90,En i157)] O O O .scf ⟨.all id,G⟩ (fun hc=>G31 O O O) ?_
      refine Ga (u:=BL (decide (0 < (i157:Int)))) [(91,BL (decide (0 < (i157:Int))))] O O O .scf ⟨.all id,G⟩ (fun hc=>G5 O O) ?_
      refine Ga (u:=G0 y157) [] O O O .optt G (fun hc=>G5 O O) ?_
      refine Ga (u:=.dptr [E1 y84.Rows]) [] O O O .optt G (fun hc=>Gb Jr O O O) ?_
      refine Ga (u:=E1 y84.Rows) [(94,.dptr [E1 y84.Rows])] O O O .optt ⟨.all id,G⟩ (fun hc=>Gh Hg O O O) ?_
      refine Ga (u:=En i157) [] O O O .optt G (fun hc=>G5 O O) ?_
      obtain⟨v164,hv164,h⟩:=Gf h
      refine Ga (u:=G0 v164) [(96,En i157)] O O O .optt ⟨.all id,G⟩ (fun hc=>Gcb (G04 (Gz hc hv164)) O O O) ?_
      obtain⟨y165,hy165,h⟩:=Gf h
      refine Ga (u:=.dptr [G0 y165]) [(95,E1 y84.Rows),(97,G0 v164)] O O O .optt ⟨.all id,.all id,G⟩ (fun hc=>(match Jf (Gz hc hy165) with | ⟨_,hm_,hy_⟩=>Gt (f:=G0) (xs:=y84.Rows) (y:=y165) O O O H0 hy_ hm_)) ?_
      refine Ga (u:=G0 y165) [(98,.dptr [G0 y165])] O O O .optt ⟨.all id,G⟩ (fun hc=>Gh Gd O O O) ?_
      refine Ga (u:=BL (decide (y157≤y165))) [(93,G0 y157),(99,G0 y165)] O O O .optt ⟨.all id,.all id,G⟩ (fun hc=>H98 O O O) ?_
      refine Ga (u:=BL ((decide (0 < (i157:Int)))&&(decide (y157≤y165)))) [(92,BL (decide (0 < (i157:Int)))),(100,_)] O O O .scf ⟨.all id,.part,G⟩ (fun hc=>Hx O O O O) ?_
      refine JLh (BL (((decide (y157 < 0))||(decide (30 < y157)))||((decide (0 < (i157:Int)))&&(decide (y157≤y165))))) (Rn O O O O) O (G8 (hK163 _ _ (Gn O (fun hb=>?_) (fun hb=>?_))))
      ·
       replace h:=Gz hb h
       refine G7 fun K166 hK166=>G2 (JLh (BL false) (G9 O O) O (G8 (hK166 _ _ (Gu (⟨[BL false],[],G,O,⟨⟨_,O,.conv (.same O)⟩,G⟩,O,false,Eq.mpr (Option.some.inj h) hp,O⟩)))))
      ·
       replace h:=Hv hb h
       refine Gp (hK162 _ _ (Hab (l':=[(3,.mp 1045),(8,.dptr [G0 y84.Bay,E1 y84.Rows]),(10,G0 y157),(55,E4 s.Covers),(56,En s.Covers.length),(57,En i84),(76,E1 y84.Rows),(77,En y84.Rows.length),(78,En i157)]) (L':=[(1045,MP 240 Hd.kv G0 s157)]) ⟨(by repeat' constructor),⟨⟨_,rfl,.map⟩,G⟩,rfl⟩ ?_))
       obtain⟨v167,hv167,h⟩:=Gf h
       obtain⟨v168,hv168,h⟩:=Qw h
       refine Q6 [7,9] [0,0,0,0,0,0,0,0,1,0] [0,0,0,0,0,1,1,0,1,0] [[(1045,MP 240 Hd.kv G0 s157)],((1045,MI 240 Hd.kv G0 s157 (Hd.mk y84.Bay y157 2) 0)::[(1045,MP 240 Hd.kv G0 s157)]),((1045,MP 240 Hd.kv G0 (Hu.put s157 (Hd.mk y84.Bay y157 2) v168))::((1045,MI 240 Hd.kv G0 s157 (Hd.mk y84.Bay y157 2) 0)::[(1045,MP 240 Hd.kv G0 s157)]))] Jk (by kernel_rfl) rfl rfl ?_
       refine Gc (u:=.mp 1045) O O ⟨Gw (G5 O O) O,G⟩ (Gc (u:=.dptr [G0 y84.Bay,E1 y84.Rows]) O O ⟨Gw (Gb Yf O O O) O,G⟩ (Gc (u:=G0 y84.Bay) O O ⟨Gw (Gh Gd O O O) O,G⟩ (Gc (u:=G0 y157) O O ⟨Gw (G5 O O) O,G⟩ (Gc (u:=.agg [G0 y84.Bay,G0 y157,G0 2]) O O ⟨Gw (J9a (cs:=[G0 y84.Bay,G0 y157,G0 2]) [.int .i64 0,.int .i64 0,.int .i64 0] J6a J12 O O) O,G⟩ (Gc (u:=G0 v167) O O ⟨Gw (((Option.some.inj hv167) ▸ J98 (av:=G0) (m:=s157) (a:=(Hd.mk y84.Bay y157 2)) 0 (.int .i64 0) O O O O Hf7 G7d H9a O)) O,Gw (((Option.some.inj hv167) ▸ J97 (av:=G0) (m:=s157) (a:=(Hd.mk y84.Bay y157 2)) 0 (.int .i64 0) O O O O Hf7 G7d H9a O)) O,G⟩ (Gc (u:=G0 v168) O O ⟨Gw (Hy hv168 O O O) O,Gw (Hy hv168 O O O) O,G⟩ (D_w (u:=.tup [.junk,G0 (G25 (Hu.l s157) (Hd.mk y84.Bay y157 2):Int)]) O O O O (Gw (J3e (m:=s157) (a:=(Hd.mk y84.Bay y157 2)) 0 (.int .i64 0) O O O O Hf7 G7d H9a O) O) (Gc (u:=G0 (G25 (Hu.l s157) (Hd.mk y84.Bay y157 2):Int)) O O ⟨Gw (J1 O O O) O,G⟩ (D_w0 (u:=.junk) O O O O (Gw (Hb7 (m:=s157) (a:=(Hd.mk y84.Bay y157 2)) (v:=v168) 0 O O O O O O) O) (Yz ?_))))))))))
       refine hK160 _ _ (G2 (JLh (G0 ((i157+1:Nat):Int)) (Hy (He hk157 hm77) O O O) O (JLh (G0 ((i157+1:Nat):Int)) (G5 O O) O (G8 (e157 _ _ (i157+1) (Hu.put s157 (Hd.mk y84.Bay y157 2) v168) (app1 hn157 h) (by omega) ⟨(by repeat' constructor),⟨⟨_,rfl,.map⟩,G⟩,rfl⟩)))))
     ·
      have h:=app1 hkx157 (Ho hi157 (H9 hb))
      refine Hk (hK87 _ _ (G2 (JLh (G0 ((i84+1:Nat):Int)) (Hy (He hk84 hm56) O O O) O (JLh (G0 ((i84+1:Nat):Int)) (G5 O O) O (G8 (e84 _ _ (i84+1) s157 (app1 hn84 h) (by omega) ⟨(by repeat' constructor),⟨⟨_,rfl,.map⟩,G⟩,rfl⟩))))))
   ·
    have h:=app1 hkx84 (Ho hi84 (H9 hb))
    refine Hk (hK82 _ _ (G7 (fun K169 hK169=>G7 fun K170 hK170=>G2 (JLh (.mp 1045) (G5 O O) O (JLh (.it 1046) (A_rangeM 1046 (m:=s84) O O O O G7d) O (G8 (hK170 _ _ (Gk ?_))))))))
    obtain⟨b176,kx176,hb176,hkx176,h⟩:=eachM_in h
    refine JC_loopM (Hu.size s84) (fun i176 (s176:Unit)=>MInv b176 kx176 (Hu.l s84) i176 s176) (fun i176 s176=>[(115,.it 1046)]) (fun i176 s176=>[(1045,MP 240 Hd.kv G0 s84),(1046,.iter 1045 (Hu.size s84) i176)]) () (MInv.start h hp) ⟨⟨.same O,G⟩,⟨⟨_,O,.map⟩,⟨_,O,.iter O⟩,G⟩,O⟩ ?_
    clear h hp
    intro i176 s176 hi176 K176 e176
    refine G7 fun K177 hK177=>G2 (JL_step O O O (A_nextM (m:=s84) O O O O) ?_)
    intro u_ L_ hn_
    rcases hn_ with ⟨q176,x176,he176,hs176,rfl,rfl⟩ | ⟨ha176,rfl,rfl⟩
    ·
     obtain⟨o176,h,ho1_176,ho2_176⟩:=hi176.step he176 hs176
     replace h:=Heb hb176 h
     refine JLh (BL true) (J1 O O O) O (G8 (hK177 _ _ (G7 (fun K178 hK178=>JC_condT O (Gp (hK178 _ _ (Gk (G7 fun K179 hK179=>G2 (JLh (.tup [.agg (Hd.cs x176.1),G0 x176.2]) (A_entryM (kv:=Hd.kv) (av:=G0) (m:=s84) (q:=q176) (seen:=i176) (e:=x176) O O O O he176) O (JLh (G0 x176.2) (J1 O O O) O (JLh (G0 x176.2) (G9 O O) O (G8 (hK179 _ _ (G7 fun K180 hK180=>G2 (JLh (G0 x176.2) (G5 O O) O (JLh (BL (decide (1 < x176.2))) (G31 O O O) O (G8 (hK180 _ _ (Gn O (fun hb=>?_) (fun hb=>?_))))))))))))))))))))
     ·
      replace h:=Gz hb h
      refine G7 fun K181 hK181=>G2 (JLh (BL false) (G9 O O) O (G8 (hK181 _ _ (Gu ?_))))
      obtain⟨y_,hy_,hl_⟩:=lft_out h
      exact⟨[BL false],[],G,O,⟨⟨_,O,.conv (.same O)⟩,G⟩,O,false,Eq.mpr (Option.some.inj hl_) (ho1_176 y_ hy_),O⟩
     ·
      replace h:=Hv hb h
      refine Gp (e176 _ _ (i176++[q176]) () (ho2_176 _ (Option.some.inj h).symm) (unseen_lt (List.getElem?_eq_some_iff.1 he176).1 hs176) ⟨⟨.same O,G⟩,⟨⟨_,O,.map⟩,⟨_,O,.iter O⟩,G⟩,O⟩)
    ·
     obtain⟨p_,h,hp⟩:=hi176.done ha176
     replace h:=app1 hkx176 h
     refine JLh (BL false) (J1 O O O) O (G8 (hK177 _ _ (G7 (fun K182 hK182=>JC_condF O (Hk (hK169 _ _ (G7 fun K183 hK183=>G2 (JLh (BL true) (G9 O O) O (G8 (hK183 _ _ (Gu (⟨[BL true],[],G,O,⟨⟨_,O,.conv (.same O)⟩,G⟩,O,true,Eq.mpr (Option.some.inj h) hp,O⟩))))))))))))
theorem J8c (S_:(Hb)→Option Bool) (hS_:∀ s r,S_ s=some r→∃ p:Prop,G9b s (fun r_=>r_=r)=some p∧p) (s:Hb) (r:Bool) (h:S_ s=some r):Pure Tryz.prog 71 [.agg (Hb.cs s)] (·=BL r):=by
 obtain⟨p,h1,h2⟩:=hS_ s r h
 exact(J8b s _ p h1 h2).monoP (fun av hh=>by obtain⟨r_,rfl,ha⟩:=hh; exact ha)

def G75 (size:Int):Option (List Int):=
 bif decide (size=40) then
 (some [0])
 else
 (bif decide (size=20) then
  (some [1,2])
  else
  (some []))
theorem J46 (size:Int) (r:(List Int)) (h:G75 size=some r):Pure Tryz.prog 245 [U8 size] (·=E9 r):=by
 unfold G75 at h
 refine H1 [.tmp 2] Tryz.func245 O O (G7 fun K1 hK1=>G2 (JLh (E9 ([]:List Int)) (R4 1 O O) O (G8 (hK1 _ _ (G7 (fun K2 hK2=>G7 fun K3 hK3=>G2 (JLh (U8 size) (G5 O O) O (G8 (hK3 _ _ (Gk (G7 fun K4 hK4=>G2 (JLh (BL (decide (size=40))) (Jx O O O) O (JLh (BL (decide (size=40))) (G9 O O) O (G8 (hK4 _ _ (Gn O (fun hb=>?_) (fun hb=>?_)))))))))))))))))
 ·
  replace h:=Gz hb h
  refine G7 fun K5 hK5=>G2 (JLh (E9 [0]) (Hm (xs:=[U8 0]) O ⟨O,O,G⟩ Gcc J55 O O O O) O (JLh (E9 [0]) (G9 O O) O (G8 (hK5 _ _ (Gu (⟨[E9 [0]],[],G,O,⟨⟨_,O,.conv (.same O)⟩,G⟩,O,congrArg (fun r:(List Int)=>(E9 r:AV)) (Option.some.inj h)⟩))))))
 ·
  replace h:=Hv hb h
  refine G7 fun K6 hK6=>G2 (JLh (BL (decide (size=20))) (Jx O O O) O (JLh (BL (decide (size=20))) (G9 O O) O (G8 (hK6 _ _ (Gn O (fun hb=>?_) (fun hb=>?_))))))
  ·
   replace h:=Gz hb h
   refine G7 fun K7 hK7=>G2 (JLh (E9 [1,2]) (Hm (xs:=[U8 1,U8 2]) O ⟨O,O,O,O,G⟩ Gcc J55 O O O O) O (JLh (E9 [1,2]) (G9 O O) O (G8 (hK7 _ _ (Gu (⟨[E9 [1,2]],[],G,O,⟨⟨_,O,.conv (.same O)⟩,G⟩,O,congrArg (fun r:(List Int)=>(E9 r:AV)) (Option.some.inj h)⟩))))))
  ·
   replace h:=Hv hb h
   refine Gp (hK2 _ _ (G7 fun K8 hK8=>G2 (JLh (E9 ([]:List Int)) (R4 1 O O) O (G8 (hK8 _ _ (Gu (⟨[E9 ([]:List Int)],[],G,O,⟨⟨_,O,.conv (.same O)⟩,G⟩,O,congrArg (fun r:(List Int)=>(E9 r:AV)) (Option.some.inj h)⟩)))))))

def G9c (p1:Gf1) (ys_:List ((List G6)×(List G6))):Option Unit:=
 each (fun y23 i23 (s23:(List G6)×Nat) nx23=>
  need (decide (ys_[s23.2]? = some (s23.1,y23))) <|
  nx23 (y23,(s23.2+1)))
 (fun(s23:(List G6)×Nat)=>
  need (decide (s23.2=ys_.length)) (some ())) p1.States 0 ([],0)
theorem J0b (p1:Gf1) (ys_:List ((List G6)×(List G6))) (q_:Unit) (h:G9c p1 ys_=some q_):Iter Tryz.prog 166 [.dptr [LS 1 (E0) p1.States,LS 1 (E1) p1.Water]] (ys_.map (fun y:(List G6)×(List G6)=>[E0 y.1,E0 y.2])):=by
 unfold G9c at h
 refine Iter_of Tryz.func166 O O ?_
 intro E hE hys
 refine H96 (fun K1 hK1=>Gad (G5b (u:=E0 ([]:List G6)) hE (R4 4 O O) ?_ O O O O))
 refine H5f ?_
 refine hK1 _ _ _ (H96 (fun K2 hK2=>Gad (G5b (u:=.dptr [LS 1 (E0) p1.States,LS 1 (E1) p1.Water]) hE (Gb H22 O O O) ?_ O O O O)))
 refine G5b (u:=LS 1 (E0) p1.States) hE (Gh G3c O O O) ?_ O O O O
 refine JIL_lenM hE (f:=(E0)) (xs:=p1.States) Rg O O (fun hm8=>?_) O O O
 refine G5b (u:=G0 0) hE (G5 O O) ?_ O O O O
 refine H5f ?_
 refine hK2 _ _ _ (JI_block ?_)
 obtain⟨b23,kx23,hb23,hkx23,h⟩:=Hw h
 refine JI_loop2 (fun i23 (s23:(List G6)×Nat)=>each b23 kx23 (List.drop i23 p1.States) i23 s23=some q_) (fun i23 s23=>[(0,.sc (.func (.yield E.lp) #[] #[])),(3,E0 s23.1),(7,LS 1 (E0) p1.States),(8,En p1.States.length),(9,En i23)]) (fun i23 s23=>[]) (fun i23 s23=>s23.2) (fun i23=>p1.States.length - i23) 0 ([],0) h ⟨(by repeat' constructor),G,rfl⟩ rfl ?_
 clear h
 intro i23 s23 hi23 K23 e23
 refine H96 (fun K24 hK24=>Gad (G5b (u:=BL (decide ((i23:Int) < (p1.States.length:Int)))) hE (J2 O O O) ?_ O O O O))
 refine H5f ?_
 refine hK24 _ _ _ (H96 (fun K25 hK25=>JI_cond O (fun hb=>?_) (fun hb=>?_)))
 ·
  have hk23:=Jc hb
  obtain⟨y23,nx23,hy23,hn23,h⟩:=Hn hi23 hk23
  replace h:=Yb hb23 h
  refine JI_skip (hK25 _ _ _ (H96 (fun K26 hK26=>JI_block (H96 (fun K27 hK27=>Gad (G5b (u:=.dptr [E0 y23]) hE (Gt (f:=(E0)) (xs:=p1.States) (y:=y23) O O O Rg hy23 O) ?_ O O O O))))))
  refine G5b (u:=E0 y23) hE (Gh Zp O O O) ?_ O O O O
  refine G5b (u:=E0 y23) hE (G9 O O) ?_ O O O O
  refine H5f ?_
  refine hK27 _ _ _ (H96 (fun K28 hK28=>H96 (fun K29 hK29=>Gad (G5b (u:=.sc (.func (.yield E.lp) #[] #[])) hE (G5 O O) ?_ O O O O))))
  refine G5b (u:=E0 s23.1) hE (G5 O O) ?_ O O O O
  refine G5b (u:=E0 y23) hE (G5 O O) ?_ O O O O
  obtain⟨ha30,h⟩:=J6 h
  refine JIL_yield (us:=[E0 s23.1,E0 y23]) hE O O ⟨O,O,O,O,G⟩ (yld_at (f:=(fun y:(List G6)×(List G6)=>[E0 y.1,E0 y.2])) (x:=(s23.1,y23)) hys ha30) ?_ O O O
  refine G5b (u:=BL false) hE (Qv (b:=true) O O) ?_ O O O O
  refine H5f ?_
  refine hK29 _ _ _ (JI_condF O (JI_skip (hK28 _ _ _ (Gad (G5b (u:=E0 y23) hE (G5 O O) ?_ O O O O)))))
  refine G5b (u:=E0 y23) hE (G9 O O) ?_ O O O O
  refine H5f ?_
  refine hK26 _ _ _ (Gad (G5b (u:=G0 ((i23+1:Nat):Int)) hE (Hy (He hk23 hm8) O O O) ?_ O O O O))
  refine G5b (u:=G0 ((i23+1:Nat):Int)) hE (G5 O O) ?_ O O O O
  refine H5f ?_
  exact e23 _ _ (i23+1) (y23,(s23.2+1)) _ (app1 hn23 h) (by omega) ⟨(by repeat' constructor),G,rfl⟩ rfl
 ·
  have h:=app1 hkx23 (Ho hi23 (H9 hb))
  refine JI_exit (yld_end (J6 h).1)
theorem J0c (S_:(Gf1)→Option (List ((List G6)×(List G6)))) (hS_:∀ p1 r,S_ p1=some r→G9c p1 r=some ()) (p1:Gf1) (r:List ((List G6)×(List G6))) (h:S_ p1=some r):Iter Tryz.prog 166 [.dptr [LS 1 (E0) p1.States,LS 1 (E1) p1.Water]] (r.map (fun y:(List G6)×(List G6)=>[E0 y.1,E0 y.2])):=J0b p1 r () (hS_ p1 r h)
end
end Go.Proofs.YtfkilljboodoaaaGreat
