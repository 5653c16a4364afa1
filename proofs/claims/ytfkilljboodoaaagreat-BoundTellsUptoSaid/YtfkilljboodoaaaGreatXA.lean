/-
 Models of functions of the program,and that they return what the models say.
-/
import Derived.Test.YtfkilljboodoaaaGreatSortLay
import Derived.Test.YtfkilljboodoaaaGreatLent
set_option maxRecDepth 100000
set_option linter.unusedVariables false
set_option linter.unusedSimpArgs false
namespace Go.Proofs.YtfkilljboodoaaaGreat
open Go.RowKit
noncomputable section
structure Hk where
 n:Int
 low:Int
 high:Int
 deriving DecidableEq,Inhabited
def Hk.cs (x:Hk):List AV:=[G1 x.n,G1 x.low,G1 x.high]
def Hk.av (x:Hk):AV:=.agg x.cs
structure Ga where
 Bay:Int
 Row:Int
 Deck:Bool
 Tiers:Int
 Height:Int
 Kilos20:Int
 Kilos40:Int
 Lash:Int
 Plugs:List Int
 X:Int
 Y:Int
 Z:Int
 deriving DecidableEq,Inhabited
def Ga.cs (x:Ga):List AV:=[G1 x.Bay,G1 x.Row,BL x.Deck,G1 x.Tiers,G1 x.Height,G1 x.Kilos20,G1 x.Kilos40,G1 x.Lash,E0 x.Plugs,G1 x.X,G1 x.Y,G1 x.Z]
def Ga.av (x:Ga):AV:=.agg x.cs
abbrev Ef (x:Ga):AV:=.dptr (Ga.cs x)
abbrev E5:=LS 12 Ga.av
structure Gm where
 Bay:Int
 Rows:List Int
 deriving DecidableEq,Inhabited
def Gm.cs (x:Gm):List AV:=[G1 x.Bay,E0 x.Rows]
def Gm.av (x:Gm):AV:=.agg x.cs
abbrev E4:=LS 2 Gm.av
structure Light where
 Kilos:Int
 X:Int
 Y:Int
 Z:Int
 deriving DecidableEq,Inhabited
def Light.cs (x:Light):List AV:=[G1 x.Kilos,G1 x.X,G1 x.Y,G1 x.Z]
def Light.av (x:Light):AV:=.agg x.cs
structure Row where
 Draught:Int
 Kilos:Int
 Buoy:Int
 Metacentre:Int
 Ha9:Int
 deriving DecidableEq,Inhabited
def Row.cs (x:Row):List AV:=[G1 x.Draught,G1 x.Kilos,G1 x.Buoy,G1 x.Metacentre,G1 x.Ha9]
def Row.av (x:Row):AV:=.agg x.cs
abbrev Ej (x:Row):AV:=.dptr (Row.cs x)
abbrev E7:=LS 5 Row.av
structure Frame where
 X:Int
 Light:Int
 Share:Int
 Shear:Int
 Bend:Int
 deriving DecidableEq,Inhabited
def Frame.cs (x:Frame):List AV:=[G1 x.X,G1 x.Light,G1 x.Share,G1 x.Shear,G1 x.Bend]
def Frame.av (x:Frame):AV:=.agg x.cs
abbrev Ek (x:Frame):AV:=.dptr (Frame.cs x)
abbrev E6:=LS 5 Frame.av
structure Gw where
 Kilos:Int
 X:Int
 Y:Int
 Z:Int
 Surface:Int
 Steps:List Int
 deriving DecidableEq,Inhabited
def Gw.cs (x:Gw):List AV:=[G1 x.Kilos,G1 x.X,G1 x.Y,G1 x.Z,G1 x.Surface,E0 x.Steps]
def Gw.av (x:Gw):AV:=.agg x.cs
abbrev Eh (x:Gw):AV:=.dptr (Gw.cs x)
abbrev E8:=LS 6 Gw.av
structure G7 where
 Tolerance:Int
 Trim:Int
 List_:Int
 Stability:Int
 deriving DecidableEq,Inhabited
def G7.cs (x:G7):List AV:=[G1 x.Tolerance,G1 x.Trim,G1 x.List_,G1 x.Stability]
def G7.av (x:G7):AV:=.agg x.cs
structure J0 where
 Columns:List Ga
 Covers:List Gm
 Light:Light
 Rows:List Row
 Frames:List Frame
 Tanks:List Gw
 G7:G7
 deriving DecidableEq,Inhabited
def J0.cs (x:J0):List AV:=[E5 x.Columns,E4 x.Covers,G1 x.Light.Kilos,G1 x.Light.X,G1 x.Light.Y,G1 x.Light.Z,E7 x.Rows,E6 x.Frames,E8 x.Tanks,G1 x.G7.Tolerance,G1 x.G7.Trim,G1 x.G7.List_,G1 x.G7.Stability]
def J0.av (x:J0):AV:=.agg x.cs
abbrev Ed (x:J0):AV:=.dptr (J0.cs x)
structure He where
 e0:Int
 e1:Int
 e2:Int
 deriving DecidableEq,Inhabited
def He.cs (x:He):List AV:=[G1 x.e0,G1 x.e1,G1 x.e2]
def He.av (x:He):AV:=.agg x.cs
def He.ks (x:He):List Value:=[.int .i64 x.e0,.int .i64 x.e1,.int .i64 x.e2]
def He.kv (x:He):Value:=.agg x.ks.toArray
structure G6 where
 Load:Int
 Discharge:Int
 deriving DecidableEq,Inhabited
def G6.cs (x:G6):List AV:=[G1 x.Load,G1 x.Discharge]
def G6.av (x:G6):AV:=.agg x.cs
abbrev E1:=LS 2 G6.av
structure G2 where
 G6:G6
 Whole:Int
 Half:Int
 deriving DecidableEq,Inhabited
def G2.cs (x:G2):List AV:=[G1 x.G6.Load,G1 x.G6.Discharge,G1 x.Whole,G1 x.Half]
def G2.av (x:G2):AV:=.agg x.cs
abbrev Ee (x:G2):AV:=.dptr (G2.cs x)
abbrev E3:=LS 4 G2.av
structure H4 where
 ID:Int
 Number:ByteArray
 Size:Int
 High:Bool
 Kilos:Int
 Load:Int
 Discharge:Int
 Class:Int
 Reefer:Bool
 deriving DecidableEq,Inhabited
def H4.cs (x:H4):List AV:=[G1 x.ID,ST x.Number,U8 x.Size,BL x.High,G1 x.Kilos,G1 x.Load,G1 x.Discharge,U8 x.Class,BL x.Reefer]
def H4.av (x:H4):AV:=.agg x.cs
abbrev Eg (x:H4):AV:=.dptr (H4.cs x)
abbrev E2:=LS 9 H4.av
def G6.ks (x:G6):List Value:=[.int .i64 x.Load,.int .i64 x.Discharge]
def G6.kv (x:G6):Value:=.agg x.ks.toArray
def G2.vs (x:G2):List Value:=[.int .i64 x.G6.Load,.int .i64 x.G6.Discharge,.int .i64 x.Whole,.int .i64 x.Half]
namespace XAF
theorem tq_241 (a b:He):H4f Tryz.prog 4 241 [.int .i64 a.e0,.int .i64 a.e1,.int .i64 a.e2] [.int .i64 b.e0,.int .i64 b.e1,.int .i64 b.e2]=some (decide (a=b)):=by
 refine(show _=some ((a.e0==b.e0)&&((a.e1==b.e1)&&((a.e2==b.e2)&&true))) by kernel_rfl).trans (congrArg some ?_)
 rw [Bool.eq_iff_iff]
 simp only [Bool.and_eq_true,beq_iff_eq,decide_eq_true_eq,Bool.and_true]
 constructor
 ·intro h; obtain⟨_,_,_⟩:=a; obtain⟨_,_,_⟩:=b; simp_all
 ·intro h; subst h; simp
theorem J6b (a b:G6):H4f Tryz.prog 4 72 [.int .i64 a.Load,.int .i64 a.Discharge] [.int .i64 b.Load,.int .i64 b.Discharge]=some (decide (a=b)):=by
 refine(show _=some ((a.Load==b.Load)&&((a.Discharge==b.Discharge)&&true)) by kernel_rfl).trans (congrArg some ?_)
 rw [Bool.eq_iff_iff]
 simp only [Bool.and_eq_true,beq_iff_eq,decide_eq_true_eq,Bool.and_true]
 constructor
 ·intro h; obtain⟨_,_⟩:=a; obtain⟨_,_⟩:=b; simp_all
 ·intro h; subst h; simp
theorem Y6:Gc2 Tryz.prog 112 12=true:=by kernel_rfl
theorem Yv:Gc2 Tryz.prog 114 2=true:=by kernel_rfl
theorem G62:Gc2 Tryz.prog 117 9=true:=by kernel_rfl
theorem Q11:Gc2 Tryz.prog 314 3=true:=by kernel_rfl
theorem Ho:Gc2 Tryz.prog 72 2=true:=by kernel_rfl
theorem R0:Gc2 Tryz.prog 81 4=true:=by kernel_rfl
theorem J7a:arrB Tryz.prog 241 3 1=true:=by kernel_rfl
theorem J34:Hn Tryz.prog 102=true:=by kernel_rfl
theorem J33:Hn Tryz.prog 103=true:=by kernel_rfl
theorem Je6:Hn Tryz.prog 104=true:=by kernel_rfl
theorem Jdb:Hn Tryz.prog 150=true:=by kernel_rfl
theorem Jd0:Hn Tryz.prog 216=true:=by kernel_rfl
theorem J26:Hn Tryz.prog 217=true:=by kernel_rfl
theorem J22:Hn Tryz.prog 241=true:=by kernel_rfl
theorem J21:Hn Tryz.prog 276=true:=by kernel_rfl
theorem G94:Zp Tryz.prog 81 4 32=true:=by kernel_rfl
theorem G22:Q1 Tryz.prog 112 0 0=true:=by kernel_rfl
theorem G21:Q1 Tryz.prog 112 1 1=true:=by kernel_rfl
theorem G8b:Q1 Tryz.prog 112 10 10=true:=by kernel_rfl
theorem G8a:Q1 Tryz.prog 112 11 11=true:=by kernel_rfl
theorem G61:Q1 Tryz.prog 112 2 2=true:=by kernel_rfl
theorem Yn:Q1 Tryz.prog 112 3 3=true:=by kernel_rfl
theorem Gaa:Q1 Tryz.prog 112 4 4=true:=by kernel_rfl
theorem Ga9:Q1 Tryz.prog 112 5 5=true:=by kernel_rfl
theorem Ga8:Q1 Tryz.prog 112 6 6=true:=by kernel_rfl
theorem Ga7:Q1 Tryz.prog 112 7 7=true:=by kernel_rfl
theorem Qo:Q1 Tryz.prog 112 8 8=true:=by kernel_rfl
theorem Ga6:Q1 Tryz.prog 112 9 9=true:=by kernel_rfl
theorem G00:Q1 Tryz.prog 114 0 0=true:=by kernel_rfl
theorem Jz:Q1 Tryz.prog 114 1 1=true:=by kernel_rfl
theorem Zz:Q1 Tryz.prog 117 2 2=true:=by kernel_rfl
theorem Zf:Q1 Tryz.prog 117 5 5=true:=by kernel_rfl
theorem Ze:Q1 Tryz.prog 117 6 6=true:=by kernel_rfl
theorem H87:Q1 Tryz.prog 314 0 0=true:=by kernel_rfl
theorem J6f:Q1 Tryz.prog 314 1 1=true:=by kernel_rfl
theorem J6e:Q1 Tryz.prog 314 2 2=true:=by kernel_rfl
theorem Hw:Q1 Tryz.prog 32 0 0=true:=by kernel_rfl
theorem Qs:Q1 Tryz.prog 32 1 1=true:=by kernel_rfl
theorem Jv:Q1 Tryz.prog 72 0 0=true:=by kernel_rfl
theorem Qb:Q1 Tryz.prog 72 1 1=true:=by kernel_rfl
theorem Ju:Q1 Tryz.prog 81 0 0=true:=by kernel_rfl
theorem G1b:Q1 Tryz.prog 81 1 2=true:=by kernel_rfl
theorem G1a:Q1 Tryz.prog 81 2 3=true:=by kernel_rfl
theorem Gbb:Gae Tryz.prog 183 72 81=true:=by kernel_rfl
theorem G93:Gae Tryz.prog 240 241 3=true:=by kernel_rfl
theorem J3:Tryz.prog.follows .mixedOrders=true:=by kernel_rfl
theorem Ym:placesOf Tryz.prog 314=some [(0,1),(1,1),(2,1)]:=by kernel_rfl
theorem G4b:placesOf Tryz.prog 72=some [(0,1),(1,1)]:=by kernel_rfl
theorem J8:Z6 Tryz.prog 22=true:=by kernel_rfl
theorem Rw:Z6 Tryz.prog 23=true:=by kernel_rfl
theorem Gc:Z6 Tryz.prog 3=true:=by kernel_rfl
theorem G60:Z6 Tryz.prog 4=true:=by kernel_rfl
theorem G47:Z6 Tryz.prog 5=true:=by kernel_rfl
theorem Hv:Z6 Tryz.prog 51=true:=by kernel_rfl
theorem G99:Zb Tryz.prog 112 12=true:=by kernel_rfl
theorem G98:Zb Tryz.prog 114 2=true:=by kernel_rfl
theorem Gc9:Zb Tryz.prog 117 9=true:=by kernel_rfl
theorem Zq:Zb Tryz.prog 3 1=true:=by kernel_rfl
theorem Jc3:Zb Tryz.prog 314 3=true:=by kernel_rfl
theorem G5f:Zb Tryz.prog 72 2=true:=by kernel_rfl
theorem G1f:Zb Tryz.prog 81 4=true:=by kernel_rfl
theorem Hb:sliceB Tryz.prog 22 112 12=true:=by kernel_rfl
theorem J2:sliceB Tryz.prog 23 114 2=true:=by kernel_rfl
theorem Ge4:sliceB Tryz.prog 312 314 3=true:=by kernel_rfl
theorem Ht:sliceB Tryz.prog 33 117 9=true:=by kernel_rfl
theorem Gt:sliceB Tryz.prog 51 3 1=true:=by kernel_rfl
theorem H8:sliceB Tryz.prog 75 81 4=true:=by kernel_rfl
theorem J1d:(Tryz.prog.info? 241).bind (fun i=>i.zero.map Value.cells)=some (List.toArray [.int .i64 0,.int .i64 0,.int .i64 0]):=by kernel_rfl
theorem Zy:(Tryz.prog.info? 314).bind (fun i=>i.zero.map Value.cells)=some (List.toArray [.int .i64 0,.int .i64 0,.int .i64 0]):=by kernel_rfl
theorem G5e:(Tryz.prog.info? 72).bind (fun i=>i.zero.map Value.cells)=some (List.toArray [.int .i64 0,.int .i64 0]):=by kernel_rfl
theorem G4a:Zd Tryz.prog 112 12=true:=by kernel_rfl
theorem G67:Zd Tryz.prog 114 2=true:=by kernel_rfl
theorem G49:Zd Tryz.prog 117 9=true:=by kernel_rfl
theorem G92:Zd Tryz.prog 3 1=true:=by kernel_rfl
theorem H5b:Zd Tryz.prog 314 3=true:=by kernel_rfl
theorem Zx:Zd Tryz.prog 72 2=true:=by kernel_rfl
theorem R9:Zd Tryz.prog 81 4=true:=by kernel_rfl
theorem Ge3:(Tryz.prog.info? 3).bind (·.zero)=some (.int .i64 0):=by kernel_rfl
theorem Jbf:(Tryz.prog.info? 81).bind (·.zero)=some (.agg #[.int .i64 0,.int .i64 0,.int .i64 0,.int .i64 0]):=by kernel_rfl
theorem Hfd:H2b Tryz.prog 241 He.kv:=H2b.of_eq He.ks (by kernel_rfl) (fun a b h=>by simp only [He.ks,List.cons.injEq,Value.int.injEq,Value.bool.injEq,Value.string.injEq,true_and,and_true] at h; obtain⟨_,_,_⟩:=a; obtain⟨_,_,_⟩:=b; simp_all) 4 (by decide) (fun a b=>tq_241 a b) (fun a=>by kernel_rfl) (fun a=>by simp [Instr.sameBits,He.ks])
theorem J6c:H2b Tryz.prog 72 G6.kv:=H2b.of_eq G6.ks (by kernel_rfl) (fun a b h=>by simp only [G6.ks,List.cons.injEq,Value.int.injEq,Value.bool.injEq,Value.string.injEq,true_and,and_true] at h; obtain⟨_,_⟩:=a; obtain⟨_,_⟩:=b; simp_all) 4 (by decide) (fun a b=>J6b a b) (fun a=>by kernel_rfl) (fun a=>by simp [Instr.sameBits,G6.ks])
end XAF
open XAF

def G42 (l:List Hk):Option Bool:=
 each (fun y18 i18 (s18:Unit) nx18=>
  bif ((decide (y18.n < y18.low))||(decide (y18.high < y18.n))) then
  (some false)
  else
  (nx18 ()))
 (fun(s18:Unit)=>
  some true) l 0 ()
theorem H53 (l:List Hk) (r:Bool) (h:G42 l=some r):Pure Tryz.prog 241 [LS 3 Hk.av l] (·=BL r):=by
 unfold G42 at h
 refine H1 [.tmp 2] Tryz.func241 G G (G5 fun K1 hK1=>G3 (JLh (BL false) (G8 G G) G (G9 (hK1 _ _ (G5 (fun K2 hK2=>G5 fun K3 hK3=>G3 (JLh (LS 3 Hk.av l) (G4 G G) G (H0 (f:=Hk.av) (xs:=l) Ge4 G G (fun hm6=>?_) G G G))))))))
 refine JLh (G1 0) (G4 G G) G (G9 (hK3 _ _ (Gn ?_)))
 obtain⟨b18,kx18,hb18,hkx18,h⟩:=J9 h
 refine H7 (fun i18 (s18:Unit)=>each b18 kx18 (List.drop i18 l) i18 s18=some r) (fun i18 s18=>[(5,LS 3 Hk.av l),(6,En l.length),(7,En i18)]) (fun i18 s18=>[]) (fun i18=>l.length - i18) 0 () h ⟨⟨.same G,.same G,.same G,ø⟩,ø,G⟩ ?_
 clear h
 intro i18 s18 hi18 K18 e18
 refine G5 fun K19 hK19=>G3 (JLh (BL (decide ((i18:Int) < (l.length:Int)))) (Hx G G G) G (G9 (hK19 _ _ (G5 (fun K20 hK20=>Gp G (fun hb=>?_) (fun hb=>?_))))))
 ·
  have hk18:=Jm hb
  obtain⟨y18,nx18,hy18,hn18,h⟩:=Hy hi18 hk18
  replace h:=Zn hb18 h
  refine Gq (hK20 _ _ (G5 (fun K21 hK21=>Gn (G5 fun K22 hK22=>G3 (JLh (.dptr [G1 y18.n,G1 y18.low,G1 y18.high]) (Gv (f:=Hk.av) (xs:=l) (y:=y18) G G G Ge4 hy18 G) G (JLh (.agg [G1 y18.n,G1 y18.low,G1 y18.high]) (Gi Q11 G G G) G (JLh (.ptr 1140 0) (Jn 1140 3 H5b G G) G (Jb (u:=.junk) (J4 (u:=.agg [G1 y18.n,G1 y18.low,G1 y18.high]) (ds:=[G1 y18.n,G1 y18.low,G1 y18.high]) Jc3 G G G G G G G G) (G9 (hK22 _ _ (Gz [(4,.dptr [G1 y18.n,G1 y18.low,G1 y18.high]),(5,LS 3 Hk.av l),(6,En l.length),(7,En i18)] [] 1140 rfl rfl rfl ø rfl (by repeat' (first | exact .ptr | constructor)) ?_)))))))))))
  refine G5 fun K23 hK23=>G3 (JLh (.dptr [G1 y18.n,G1 y18.low,G1 y18.high]) (Ge H87 G G G) G (JLh (G1 y18.n) (Gk Gc G G G) G (JLh (.dptr [G1 y18.low,G1 y18.high]) (Ge J6f G G G) G (JLh (G1 y18.low) (Gk Gc G G G) G (JLh (BL (decide (y18.n < y18.low))) (Hx G G G) G (JLh (BL (decide (y18.n < y18.low))) (G4 G G) G (Gd (u:=.dptr [G1 y18.n,G1 y18.low,G1 y18.high]) [] G G G .scf ø (fun hc=>Ge H87 G G G) ?_)))))))
  refine Gd (u:=G1 y18.n) [(17,.dptr [G1 y18.n,G1 y18.low,G1 y18.high])] G G G .scf ⟨.all id,ø⟩ (fun hc=>Gk Gc G G G) ?_
  refine Gd (u:=.dptr [G1 y18.high]) [] G G G .scf ø (fun hc=>Ge J6e G G G) ?_
  refine Gd (u:=G1 y18.high) [(19,.dptr [G1 y18.high])] G G G .scf ⟨.all id,ø⟩ (fun hc=>Gk Gc G G G) ?_
  refine Gd (u:=BL (decide (y18.high < y18.n))) [(18,G1 y18.n),(20,G1 y18.high)] G G G .scf ⟨.all id,.all id,ø⟩ (fun hc=>Ya G G G) ?_
  refine JLh (BL ((decide (y18.n < y18.low))||(decide (y18.high < y18.n)))) (Z5 G G G G) G (G9 (hK23 _ _ (Gp G (fun hb=>?_) (fun hb=>?_))))
  ·
   replace h:=Gy hb h
   refine G5 fun K24 hK24=>G3 (JLh (BL false) (G8 G G) G (G9 (hK24 _ _ (Gx (⟨[BL false],[],ø,G,⟨⟨_,G,.conv (.same G)⟩,ø⟩,G,congrArg (fun r:Bool=>(BL r:AV)) (Option.some.inj h)⟩)))))
  ·
   replace h:=Hp hb h
   refine Gq (hK21 _ _ (G3 (JLh (G1 ((i18+1:Nat):Int)) (Hj (Hi hk18 hm6) G G G) G (JLh (G1 ((i18+1:Nat):Int)) (G4 G G) G (G9 (e18 _ _ (i18+1) () (app1 hn18 h) (by omega) ⟨⟨.same rfl,.same rfl,.same rfl,ø⟩,ø,rfl⟩))))))
 ·
  have h:=app1 hkx18 (Hz hi18 (Hg hb))
  refine Hc (hK2 _ _ (G5 fun K25 hK25=>G3 (JLh (BL true) (G8 G G) G (G9 (hK25 _ _ (Gx (⟨[BL true],[],ø,G,⟨⟨_,G,.conv (.same G)⟩,ø⟩,G,congrArg (fun r:Bool=>(BL r:AV)) (Option.some.inj h)⟩)))))))

def G6f (c:Ga):Option Bool:=
 each (fun y27 i27 (s27:Unit) nx27=>
  wrp (c.Tiers - 1) fun v33=>
  bnd (G42 [(Hk.mk y27 0 v33)]) fun r34=>
  bnd (bif ((!(!r34))&&(decide (0 < (i27:Int)))) then some (IntKind.i64.wrap ((i27:Int) - 1)) else some 0) fun v35=>
  bnd (bif ((!(!r34))&&(decide (0 < (i27:Int)))) then Qe c.Plugs v35 some else some default) fun y36=>
  bif ((!r34)||((decide (0 < (i27:Int)))&&(decide (y27≤y36)))) then
  (some false)
  else
  (nx27 ()))
 (fun(s27:Unit)=>
  bnd (G42 [(Hk.mk c.Bay 0 39),(Hk.mk c.Row 0 30),(Hk.mk c.Tiers 1 10),(Hk.mk c.Height 0 40000),(Hk.mk c.Kilos20 0 500000000),(Hk.mk c.Kilos40 0 500000000),(Hk.mk c.Lash 0 1000000000000),(Hk.mk c.X (-500000) 500000),(Hk.mk c.Y (-500000) 500000),(Hk.mk c.Z (-500000) 500000)]) fun r39=>
  some r39) c.Plugs 0 ()
theorem J9c (c:Ga) (r:Bool) (h:G6f c=some r):Pure Tryz.prog 150 [.agg (Ga.cs c)] (·=BL r):=by
 unfold G6f at h
 refine H1 [.tmp 2] Tryz.func150 G G (G5 fun K1 hK1=>G3 (JLh (.ptr 1114 0) (Qi (u:=.agg (Ga.cs c)) (cs:=(Ga.cs c)) 1114 G G G G G) G (JLh (BL false) (G8 G G) G (G9 (hK1 _ _ (Gz [(1,Ef c)] [] 1114 rfl rfl rfl ø rfl (by exact⟨.ptr,ø⟩) (G5 fun K2 hK2=>G3 (JLh (.fn 241 []) (G8 G G) G (G9 (hK2 _ _ (G5 (fun K3 hK3=>?_))))))))))))
 refine G5 fun K4 hK4=>G3 (JLh (.dptr [E0 c.Plugs,G1 c.X,G1 c.Y,G1 c.Z]) (Ge Qo G G G) G (JLh (E0 c.Plugs) (Gk Hv G G G) G (H0 (f:=G1) (xs:=c.Plugs) Gt G G (fun hm8=>?_) G G G)))
 refine JLh (G1 0) (G4 G G) G (G9 (hK4 _ _ (Gn ?_)))
 obtain⟨b27,kx27,hb27,hkx27,h⟩:=J9 h
 refine H7 (fun i27 (s27:Unit)=>each b27 kx27 (List.drop i27 c.Plugs) i27 s27=some r) (fun i27 s27=>[(1,Ef c),(3,.fn 241 []),(7,E0 c.Plugs),(8,En c.Plugs.length),(9,En i27)]) (fun i27 s27=>[]) (fun i27=>c.Plugs.length - i27) 0 () h ⟨(by repeat' constructor),ø,rfl⟩ ?_
 clear h
 intro i27 s27 hi27 K27 e27
 refine G5 fun K28 hK28=>G3 (JLh (BL (decide ((i27:Int) < (c.Plugs.length:Int)))) (Hx G G G) G (G9 (hK28 _ _ (G5 (fun K29 hK29=>Gp G (fun hb=>?_) (fun hb=>?_))))))
 ·
  have hk27:=Jm hb
  obtain⟨y27,nx27,hy27,hn27,h⟩:=Hy hi27 hk27
  replace h:=Zn hb27 h
  refine Gq (hK29 _ _ (G5 (fun K30 hK30=>Gn (G5 fun K31 hK31=>G3 (JLh (En i27) (G4 G G) G (JLh (.dptr [G1 y27]) (Gv (f:=G1) (xs:=c.Plugs) (y:=y27) G G G Gt hy27 G) G (JLh (G1 y27) (Gk Gc G G G) G (JLh (En i27) (G8 G G) G (JLh (G1 y27) (G8 G G) G (G9 (hK31 _ _ (G5 fun K32 hK32=>G3 (JLh (.fn 241 []) (G4 G G) G (JLh (G1 y27) (G4 G G) G (JLh (.dptr [G1 c.Tiers,G1 c.Height,G1 c.Kilos20,G1 c.Kilos40,G1 c.Lash,E0 c.Plugs,G1 c.X,G1 c.Y,G1 c.Z]) (Ge Yn G G G) G (JLh (G1 c.Tiers) (Gk Gc G G G) G ?_))))))))))))))))
  obtain⟨v33,hv33,h⟩:=wrp_out h
  refine JLh (G1 v33) (G1e hv33 G G G) G (JLh (.agg [G1 y27,G1 0,G1 v33]) (Q0 (cs:=[G1 y27,G1 0,G1 v33]) [(0,1),(1,1),(2,1)] [G1 0,G1 0,G1 0] [.int .i64 0,.int .i64 0,.int .i64 0] Ym Zy ⟨.inl G,.inl G,.inl G,ø⟩ G G) G (JLh (LS 3 Hk.av [(Hk.mk y27 0 v33)]) (Hs (xs:=[.agg [G1 y27,G1 0,G1 v33]]) G ⟨G,G,ø⟩ Ge4 H5b G G G G) G ?_))
  obtain⟨r34,hr34,h⟩:=Gf h
  refine JLh (BL r34) (H58 (args:=[LS 3 Hk.av [(Hk.mk y27 0 v33)]]) (caps:=[]) G G (H53 [(Hk.mk y27 0 v33)] r34 hr34) J22 ⟨G,G,ø⟩ G) G (JLh (BL (!r34)) (Yu (b:=r34) G G) G (JLh (BL (!r34)) (G4 G G) G (Gd (u:=En i27) [] G G G .scf ø (fun hc=>G4 G G) ?_)))
  refine Gd (u:=BL (decide (0 < (i27:Int)))) [(24,En i27)] G G G .scf ⟨.all id,ø⟩ (fun hc=>Ya G G G) ?_
  refine Gd (u:=BL (decide (0 < (i27:Int)))) [(25,BL (decide (0 < (i27:Int))))] G G G .scf ⟨.all id,ø⟩ (fun hc=>G4 G G) ?_
  refine Gd (u:=G1 y27) [] G G G .optt ø (fun hc=>G4 G G) ?_
  refine Gd (u:=.dptr [E0 c.Plugs,G1 c.X,G1 c.Y,G1 c.Z]) [] G G G .optt ø (fun hc=>Ge Qo G G G) ?_
  refine Gd (u:=E0 c.Plugs) [(28,.dptr [E0 c.Plugs,G1 c.X,G1 c.Y,G1 c.Z])] G G G .optt ⟨.all id,ø⟩ (fun hc=>Gk Hv G G G) ?_
  refine Gd (u:=En i27) [] G G G .optt ø (fun hc=>G4 G G) ?_
  obtain⟨v35,hv35,h⟩:=Gf h
  refine Gd (u:=G1 v35) [(30,En i27)] G G G .optt ⟨.all id,ø⟩ (fun hc=>G1e (Option.some.inj (Gy hc hv35)) G G G) ?_
  obtain⟨y36,hy36,h⟩:=Gf h
  refine Gd (u:=.dptr [G1 y36]) [(29,E0 c.Plugs),(31,G1 v35)] G G G .optt ⟨.all id,.all id,ø⟩ (fun hc=>(match Q2 (Gy hc hy36) with | ⟨_,hm_,hy_⟩=>Gv (f:=G1) (xs:=c.Plugs) (y:=y36) G G G Gt hy_ hm_)) ?_
  refine Gd (u:=G1 y36) [(32,.dptr [G1 y36])] G G G .optt ⟨.all id,ø⟩ (fun hc=>Gk Gc G G G) ?_
  refine Gd (u:=BL (decide (y27≤y36))) [(27,G1 y27),(33,G1 y36)] G G G .optt ⟨.all id,.all id,ø⟩ (fun hc=>H81 G G G) ?_
  refine Gd (u:=BL ((decide (0 < (i27:Int)))&&(decide (y27≤y36)))) [(26,BL (decide (0 < (i27:Int)))),(34,_)] G G G .scf ⟨.all id,.part,ø⟩ (fun hc=>J7 G G G G) ?_
  refine JLh (BL ((!r34)||((decide (0 < (i27:Int)))&&(decide (y27≤y36))))) (Z5 G G G G) G (G9 (hK32 _ _ (Gp G (fun hb=>?_) (fun hb=>?_))))
  ·
   replace h:=Gy hb h
   refine G5 fun K37 hK37=>G3 (JLh (BL false) (G8 G G) G (G9 (hK37 _ _ (Gx (⟨[BL false],[],ø,G,⟨⟨_,G,.conv (.same G)⟩,ø⟩,G,congrArg (fun r:Bool=>(BL r:AV)) (Option.some.inj h)⟩)))))
  ·
   replace h:=Hp hb h
   refine Gq (hK30 _ _ (G3 (JLh (G1 ((i27+1:Nat):Int)) (Hj (Hi hk27 hm8) G G G) G (JLh (G1 ((i27+1:Nat):Int)) (G4 G G) G (G9 (e27 _ _ (i27+1) () (app1 hn27 h) (by omega) ⟨(by repeat' constructor),ø,rfl⟩))))))
 ·
  have h:=app1 hkx27 (Hz hi27 (Hg hb))
  refine Hc (hK3 _ _ ?_)
  refine G5 fun K38 hK38=>G3 (JLh (.fn 241 []) (G4 G G) G (JLh (Ef c) (Ge G22 G G G) G (JLh (G1 c.Bay) (Gk Gc G G G) G (JLh (.agg [G1 c.Bay,G1 0,G1 39]) (Q0 (cs:=[G1 c.Bay,G1 0,G1 39]) [(0,1),(1,1),(2,1)] [G1 0,G1 0,G1 0] [.int .i64 0,.int .i64 0,.int .i64 0] Ym Zy ⟨.inl G,.inl G,.inl G,ø⟩ G G) G (JLh (.dptr [G1 c.Row,BL c.Deck,G1 c.Tiers,G1 c.Height,G1 c.Kilos20,G1 c.Kilos40,G1 c.Lash,E0 c.Plugs,G1 c.X,G1 c.Y,G1 c.Z]) (Ge G21 G G G) G (JLh (G1 c.Row) (Gk Gc G G G) G (JLh (.agg [G1 c.Row,G1 0,G1 30]) (Q0 (cs:=[G1 c.Row,G1 0,G1 30]) [(0,1),(1,1),(2,1)] [G1 0,G1 0,G1 0] [.int .i64 0,.int .i64 0,.int .i64 0] Ym Zy ⟨.inl G,.inl G,.inl G,ø⟩ G G) G (JLh (.dptr [G1 c.Tiers,G1 c.Height,G1 c.Kilos20,G1 c.Kilos40,G1 c.Lash,E0 c.Plugs,G1 c.X,G1 c.Y,G1 c.Z]) (Ge Yn G G G) G (JLh (G1 c.Tiers) (Gk Gc G G G) G (JLh (.agg [G1 c.Tiers,G1 1,G1 10]) (Q0 (cs:=[G1 c.Tiers,G1 1,G1 10]) [(0,1),(1,1),(2,1)] [G1 0,G1 0,G1 0] [.int .i64 0,.int .i64 0,.int .i64 0] Ym Zy ⟨.inl G,.inl G,.inl G,ø⟩ G G) G (JLh (.dptr [G1 c.Height,G1 c.Kilos20,G1 c.Kilos40,G1 c.Lash,E0 c.Plugs,G1 c.X,G1 c.Y,G1 c.Z]) (Ge Gaa G G G) G (JLh (G1 c.Height) (Gk Gc G G G) G (JLh (.agg [G1 c.Height,G1 0,G1 40000]) (Q0 (cs:=[G1 c.Height,G1 0,G1 40000]) [(0,1),(1,1),(2,1)] [G1 0,G1 0,G1 0] [.int .i64 0,.int .i64 0,.int .i64 0] Ym Zy ⟨.inl G,.inl G,.inl G,ø⟩ G G) G ?_)))))))))))))
  refine JLh (.dptr [G1 c.Kilos20,G1 c.Kilos40,G1 c.Lash,E0 c.Plugs,G1 c.X,G1 c.Y,G1 c.Z]) (Ge Ga9 G G G) G (JLh (G1 c.Kilos20) (Gk Gc G G G) G (JLh (.agg [G1 c.Kilos20,G1 0,G1 500000000]) (Q0 (cs:=[G1 c.Kilos20,G1 0,G1 500000000]) [(0,1),(1,1),(2,1)] [G1 0,G1 0,G1 0] [.int .i64 0,.int .i64 0,.int .i64 0] Ym Zy ⟨.inl G,.inl G,.inl G,ø⟩ G G) G (JLh (.dptr [G1 c.Kilos40,G1 c.Lash,E0 c.Plugs,G1 c.X,G1 c.Y,G1 c.Z]) (Ge Ga8 G G G) G (JLh (G1 c.Kilos40) (Gk Gc G G G) G (JLh (.agg [G1 c.Kilos40,G1 0,G1 500000000]) (Q0 (cs:=[G1 c.Kilos40,G1 0,G1 500000000]) [(0,1),(1,1),(2,1)] [G1 0,G1 0,G1 0] [.int .i64 0,.int .i64 0,.int .i64 0] Ym Zy ⟨.inl G,.inl G,.inl G,ø⟩ G G) G (JLh (.dptr [G1 c.Lash,E0 c.Plugs,G1 c.X,G1 c.Y,G1 c.Z]) (Ge Ga7 G G G) G (JLh (G1 c.Lash) (Gk Gc G G G) G (JLh (.agg [G1 c.Lash,G1 0,G1 1000000000000]) (Q0 (cs:=[G1 c.Lash,G1 0,G1 1000000000000]) [(0,1),(1,1),(2,1)] [G1 0,G1 0,G1 0] [.int .i64 0,.int .i64 0,.int .i64 0] Ym Zy ⟨.inl G,.inl G,.inl G,ø⟩ G G) G (JLh (.dptr [G1 c.X,G1 c.Y,G1 c.Z]) (Ge Ga6 G G G) G (JLh (G1 c.X) (Gk Gc G G G) G (JLh (.agg [G1 c.X,G1 (-500000),G1 500000]) (Q0 (cs:=[G1 c.X,G1 (-500000),G1 500000]) [(0,1),(1,1),(2,1)] [G1 0,G1 0,G1 0] [.int .i64 0,.int .i64 0,.int .i64 0] Ym Zy ⟨.inl G,.inl G,.inl G,ø⟩ G G) G (JLh (.dptr [G1 c.Y,G1 c.Z]) (Ge G8b G G G) G (JLh (G1 c.Y) (Gk Gc G G G) G ?_)))))))))))))
  refine JLh (.agg [G1 c.Y,G1 (-500000),G1 500000]) (Q0 (cs:=[G1 c.Y,G1 (-500000),G1 500000]) [(0,1),(1,1),(2,1)] [G1 0,G1 0,G1 0] [.int .i64 0,.int .i64 0,.int .i64 0] Ym Zy ⟨.inl G,.inl G,.inl G,ø⟩ G G) G (JLh (.dptr [G1 c.Z]) (Ge G8a G G G) G (JLh (G1 c.Z) (Gk Gc G G G) G (JLh (.agg [G1 c.Z,G1 (-500000),G1 500000]) (Q0 (cs:=[G1 c.Z,G1 (-500000),G1 500000]) [(0,1),(1,1),(2,1)] [G1 0,G1 0,G1 0] [.int .i64 0,.int .i64 0,.int .i64 0] Ym Zy ⟨.inl G,.inl G,.inl G,ø⟩ G G) G (JLh (LS 3 Hk.av [(Hk.mk c.Bay 0 39),(Hk.mk c.Row 0 30),(Hk.mk c.Tiers 1 10),(Hk.mk c.Height 0 40000),(Hk.mk c.Kilos20 0 500000000),(Hk.mk c.Kilos40 0 500000000),(Hk.mk c.Lash 0 1000000000000),(Hk.mk c.X (-500000) 500000),(Hk.mk c.Y (-500000) 500000),(Hk.mk c.Z (-500000) 500000)]) (Hs (xs:=[.agg [G1 c.Bay,G1 0,G1 39],.agg [G1 c.Row,G1 0,G1 30],.agg [G1 c.Tiers,G1 1,G1 10],.agg [G1 c.Height,G1 0,G1 40000],.agg [G1 c.Kilos20,G1 0,G1 500000000],.agg [G1 c.Kilos40,G1 0,G1 500000000],.agg [G1 c.Lash,G1 0,G1 1000000000000],.agg [G1 c.X,G1 (-500000),G1 500000],.agg [G1 c.Y,G1 (-500000),G1 500000],.agg [G1 c.Z,G1 (-500000),G1 500000]]) G ⟨G,G,G,G,G,G,G,G,G,G,G,G,G,G,G,G,G,G,G,G,ø⟩ Ge4 H5b G G G G) G ?_))))
  obtain⟨r39,hr39,h⟩:=Gf h
  refine JLh (BL r39) (H58 (args:=[LS 3 Hk.av [(Hk.mk c.Bay 0 39),(Hk.mk c.Row 0 30),(Hk.mk c.Tiers 1 10),(Hk.mk c.Height 0 40000),(Hk.mk c.Kilos20 0 500000000),(Hk.mk c.Kilos40 0 500000000),(Hk.mk c.Lash 0 1000000000000),(Hk.mk c.X (-500000) 500000),(Hk.mk c.Y (-500000) 500000),(Hk.mk c.Z (-500000) 500000)]]) (caps:=[]) G G (H53 [(Hk.mk c.Bay 0 39),(Hk.mk c.Row 0 30),(Hk.mk c.Tiers 1 10),(Hk.mk c.Height 0 40000),(Hk.mk c.Kilos20 0 500000000),(Hk.mk c.Kilos40 0 500000000),(Hk.mk c.Lash 0 1000000000000),(Hk.mk c.X (-500000) 500000),(Hk.mk c.Y (-500000) 500000),(Hk.mk c.Z (-500000) 500000)] r39 hr39) J22 ⟨G,G,ø⟩ G) G (JLh (BL r39) (G8 G G) G (G9 (hK38 _ _ (Gx ?_))))
  exact⟨[BL r39],[],ø,G,⟨⟨_,G,.conv (.same G)⟩,ø⟩,G,congrArg (fun r:Bool=>(BL r:AV)) (Option.some.inj h)⟩

def Gb3 (s:J0) (Rp:Bool→Prop):Option Prop:=
 bif (((decide ((s.Columns.length:Int) < 1))||(decide (200 < (s.Columns.length:Int))))||(decide (40 < (s.Covers.length:Int)))) then
 (some (Rp false))
 else
 (each (fun y68 i68 (s68:(Hh He Int)) nx68=>
   jp (fun kj74=>
    bif y68.Deck then
    (kj74 1)
    else
    (kj74 0)) fun(j74:Int)=>
   bnd (some (Hh.get s68 (He.mk y68.Bay y68.Row j74) 0)) fun v77=>
   Rm (v77+1) fun v78=>
   bnd (G6f y68) fun r80=>
   bif (!r80) then
   (some (Rp false))
   else
   (nx68 (Hh.put s68 (He.mk y68.Bay y68.Row j74) v78)))
  (fun(s68:(Hh He Int))=>
   each (fun y84 i84 (s84:(Hh He Int)) nx84=>
    bif (((decide (y84.Bay < 0))||(decide (40≤y84.Bay)))||(decide ((y84.Rows.length:Int)=0))) then
    (some (Rp false))
    else
    (each (fun y157 i157 (s157:(Hh He Int)) nx157=>
      bnd (bif ((!((decide (y157 < 0))||(decide (30 < y157))))&&(decide (0 < (i157:Int)))) then Rm ((i157:Int) - 1) some else some 0) fun v164=>
      bnd (bif ((!((decide (y157 < 0))||(decide (30 < y157))))&&(decide (0 < (i157:Int)))) then Qe y84.Rows v164 some else some default) fun y165=>
      bif (((decide (y157 < 0))||(decide (30 < y157)))||((decide (0 < (i157:Int)))&&(decide (y157≤y165)))) then
      (some (Rp false))
      else
      (bnd (some (Hh.get s157 (He.mk y84.Bay y157 2) 0)) fun v167=>
       Rm (v167+1) fun v168=>
       nx157 (Hh.put s157 (He.mk y84.Bay y157 2) v168)))
     (fun(s157:(Hh He Int))=>
      nx84 s157) y84.Rows 0 s84))
   (fun(s84:(Hh He Int))=>
    J93 (fun(x176:He×Int) (s176:Unit) nx176=>
     bif decide (1 < x176.2) then
     (lft (some (Rp false)))
     else
     (nx176 ()))
    (fun(s176:Unit)=>
     some (Rp true)) (Hh.l s84) ()) s.Covers 0 s68) s.Columns 0 (Hh.empty:Hh He Int))
def Gf2 (s:J0):Option Bool:=
 bif (((decide ((s.Columns.length:Int) < 1))||(decide (200 < (s.Columns.length:Int))))||(decide (40 < (s.Covers.length:Int)))) then
 (some (id false))
 else
 (each (fun y68 i68 (s68:(Hh He Int)) nx68=>
   jp (fun kj74=>
    bif y68.Deck then
    (kj74 1)
    else
    (kj74 0)) fun(j74:Int)=>
   bnd (some (Hh.get s68 (He.mk y68.Bay y68.Row j74) 0)) fun v77=>
   Rm (v77+1) fun v78=>
   bnd (G6f y68) fun r80=>
   bif (!r80) then
   (some (id false))
   else
   (nx68 (Hh.put s68 (He.mk y68.Bay y68.Row j74) v78)))
  (fun(s68:(Hh He Int))=>
   each (fun y84 i84 (s84:(Hh He Int)) nx84=>
    bif (((decide (y84.Bay < 0))||(decide (40≤y84.Bay)))||(decide ((y84.Rows.length:Int)=0))) then
    (some (id false))
    else
    (each (fun y157 i157 (s157:(Hh He Int)) nx157=>
      bnd (bif ((!((decide (y157 < 0))||(decide (30 < y157))))&&(decide (0 < (i157:Int)))) then Rm ((i157:Int) - 1) some else some 0) fun v164=>
      bnd (bif ((!((decide (y157 < 0))||(decide (30 < y157))))&&(decide (0 < (i157:Int)))) then Qe y84.Rows v164 some else some default) fun y165=>
      bif (((decide (y157 < 0))||(decide (30 < y157)))||((decide (0 < (i157:Int)))&&(decide (y157≤y165)))) then
      (some (id false))
      else
      (bnd (some (Hh.get s157 (He.mk y84.Bay y157 2) 0)) fun v167=>
       Rm (v167+1) fun v168=>
       nx157 (Hh.put s157 (He.mk y84.Bay y157 2) v168)))
     (fun(s157:(Hh He Int))=>
      nx84 s157) y84.Rows 0 s84))
   (fun(s84:(Hh He Int))=>
    Hcc (fun(x176:He×Int) (s176:Unit) nx176=>
     bif decide (1 < x176.2) then
     (lft (some (id false)))
     else
     (nx176 ()))
    (fun(s176:Unit)=>
     some (id true)) (Hh.l s84) ()) s.Covers 0 s68) s.Columns 0 (Hh.empty:Hh He Int))
theorem J9d (s:J0) (Rp:Bool→Prop) (p:Prop) (h:Gb3 s Rp=some p) (hp:p):Pure Tryz.prog 71 [.agg (J0.cs s)] (fun av=>∃ r,Rp r∧av=BL r):=by
 unfold Gb3 at h
 refine H1 [.tmp 2] Tryz.func71 G G (G5 fun K1 hK1=>G3 (JLh (.ptr 1058 0) (Qi (u:=.agg (J0.cs s)) (cs:=(J0.cs s)) 1058 G G G G G) G (JLh (BL false) (G8 G G) G (G9 (hK1 _ _ ?_)))))
 refine Gz [(1,Ed s)] [] 1058 rfl rfl rfl ø rfl (by exact⟨.ptr,ø⟩) (G5 (fun K2 hK2=>G5 fun K3 hK3=>G3 (JLh (Ed s) (Ge Hw G G G) G (JLh (E5 s.Columns) (Gk J8 G G G) G (H0 (f:=Ga.av) (xs:=s.Columns) Hb G G (fun hm15=>?_) G G G)))))
 refine JLh (BL (decide ((s.Columns.length:Int) < 1))) (Hx G G G) G (JLh (BL (decide ((s.Columns.length:Int) < 1))) (G4 G G) G (Gd (u:=Ed s) [] G G G .scf ø (fun hc=>Ge Hw G G G) ?_))
 refine Gd (u:=E5 s.Columns) [(18,Ed s)] G G G .scf ⟨.all id,ø⟩ (fun hc=>Gk J8 G G G) ?_
 refine Gd (u:=En s.Columns.length) [(19,E5 s.Columns)] G G G .scf ⟨.all id,ø⟩ (fun hc=>Jp (f:=Ga.av) (xs:=s.Columns) Hb G G) ?_
 refine Gd (u:=BL (decide (200 < (s.Columns.length:Int)))) [(20,En s.Columns.length)] G G G .scf ⟨.all id,ø⟩ (fun hc=>Ya G G G) ?_
 refine JLh (BL ((decide ((s.Columns.length:Int) < 1))||(decide (200 < (s.Columns.length:Int))))) (Z5 G G G G) G (JLh (BL ((decide ((s.Columns.length:Int) < 1))||(decide (200 < (s.Columns.length:Int))))) (G4 G G) G (Gd (u:=.dptr [E4 s.Covers,G1 s.Light.Kilos,G1 s.Light.X,G1 s.Light.Y,G1 s.Light.Z,E7 s.Rows,E6 s.Frames,E8 s.Tanks,G1 s.G7.Tolerance,G1 s.G7.Trim,G1 s.G7.List_,G1 s.G7.Stability]) [] G G G .scf ø (fun hc=>Ge Qs G G G) ?_))
 refine Gd (u:=E4 s.Covers) [(24,.dptr [E4 s.Covers,G1 s.Light.Kilos,G1 s.Light.X,G1 s.Light.Y,G1 s.Light.Z,E7 s.Rows,E6 s.Frames,E8 s.Tanks,G1 s.G7.Tolerance,G1 s.G7.Trim,G1 s.G7.List_,G1 s.G7.Stability])] G G G .scf ⟨.all id,ø⟩ (fun hc=>Gk Rw G G G) ?_
 refine Gd (u:=En s.Covers.length) [(25,E4 s.Covers)] G G G .scf ⟨.all id,ø⟩ (fun hc=>Jp (f:=Gm.av) (xs:=s.Covers) J2 G G) ?_
 refine Gd (u:=BL (decide (40 < (s.Covers.length:Int)))) [(26,En s.Covers.length)] G G G .scf ⟨.all id,ø⟩ (fun hc=>Ya G G G) ?_
 refine JLh (BL (((decide ((s.Columns.length:Int) < 1))||(decide (200 < (s.Columns.length:Int))))||(decide (40 < (s.Covers.length:Int))))) (Z5 G G G G) G (G9 (hK3 _ _ (Gp G (fun hb=>?_) (fun hb=>?_))))
 ·
  replace h:=Gy hb h
  refine G5 fun K4 hK4=>G3 (JLh (BL false) (G8 G G) G (G9 (hK4 _ _ (Gx (⟨[BL false],[],ø,G,⟨⟨_,G,.conv (.same G)⟩,ø⟩,G,false,Eq.mpr (Option.some.inj h) hp,G⟩)))))
 ·
  replace h:=Hp hb h
  refine Gq (hK2 _ _ (G5 fun K5 hK5=>G3 (JLh (.mp 1061) (H7c 1061 He.kv G1 G G) G (JLh (.mp 1061) (G8 G G) G (G9 (hK5 _ _ (G5 (fun K6 hK6=>G5 fun K7 hK7=>G3 (JLh (Ed s) (Ge Hw G G G) G (JLh (E5 s.Columns) (Gk J8 G G G) G (H0 (f:=Ga.av) (xs:=s.Columns) Hb G G (fun hm32=>?_) G G G)))))))))))
  refine JLh (G1 0) (G4 G G) G (G9 (hK7 _ _ (Gn ?_)))
  obtain⟨b68,kx68,hb68,hkx68,h⟩:=J9 h
  refine H7 (fun i68 (s68:(Hh He Int))=>each b68 kx68 (List.drop i68 s.Columns) i68 s68=some p) (fun i68 s68=>[(1,Ed s),(3,.mp 1061),(31,E5 s.Columns),(32,En s.Columns.length),(33,En i68)]) (fun i68 s68=>[(1061,MP 240 He.kv G1 s68)]) (fun i68=>s.Columns.length - i68) 0 (Hh.empty:Hh He Int) h ⟨(by repeat' constructor),⟨⟨_,rfl,.map⟩,ø⟩,rfl⟩ ?_
  clear h
  intro i68 s68 hi68 K68 e68
  refine G5 fun K69 hK69=>G3 (JLh (BL (decide ((i68:Int) < (s.Columns.length:Int)))) (Hx G G G) G (G9 (hK69 _ _ (G5 (fun K70 hK70=>Gp G (fun hb=>?_) (fun hb=>?_))))))
  ·
   have hk68:=Jm hb
   obtain⟨y68,nx68,hy68,hn68,h⟩:=Hy hi68 hk68
   replace h:=Zn hb68 h
   refine Gq (hK70 _ _ (G5 (fun K71 hK71=>Gn (G5 fun K72 hK72=>G3 (JLh (Ef y68) (Gv (f:=Ga.av) (xs:=s.Columns) (y:=y68) G G G Hb hy68 G) G (JLh (.agg (Ga.cs y68)) (Gi Y6 G G G) G (JLh (.ptr 1059 0) (Jn 1059 12 G4a G G) G (Jb (u:=.junk) (J4 (u:=.agg (Ga.cs y68)) (ds:=(Ga.cs y68)) G99 G G G G G G G G) (G9 (hK72 _ _ ?_))))))))))
   refine Gz [(1,Ed s),(3,.mp 1061),(5,Ef y68),(31,E5 s.Columns),(32,En s.Columns.length),(33,En i68)] [(1061,MP 240 He.kv G1 s68)] 1059 rfl rfl rfl ⟨⟨_,rfl,.map⟩,ø⟩ rfl (by repeat' (first | exact .ptr | constructor)) (G5 fun K73 hK73=>G3 (JLh (G1 0) (G8 G G) G (G9 (hK73 _ _ ?_))))
   obtain⟨kj74,hkj74,h⟩:=G40 h
   refine G0b (fun j74:Int=>kj74 j74=some p) (fun j74=>[(1,Ed s),(3,.mp 1061),(5,Ef y68),(6,G1 j74),(31,E5 s.Columns),(32,En s.Columns.length),(33,En i68)]) (fun j74=>[(1061,MP 240 He.kv G1 s68)]) (fun Kj74 ej74=>?_) ?_
   ·
    refine G5 fun K75 hK75=>G3 (JLh (.dptr ((Ga.cs y68).drop 2)) (Ge G61 G G G) G (JLh (BL y68.Deck) (Gk G60 G G G) G (G9 (hK75 _ _ (Gp G (fun hb=>?_) (fun hb=>?_))))))
    ·
     replace h:=Gy hb h
     refine G3 (JLh (G1 1) (G8 G G) G (G9 (ej74 _ _ 1 h ⟨(by repeat' constructor),⟨⟨_,rfl,.map⟩,ø⟩,rfl⟩)))
    ·
     replace h:=Hp hb h
     refine Gq (ej74 _ _ 0 h ⟨(by repeat' constructor),⟨⟨_,rfl,.map⟩,ø⟩,rfl⟩)
   ·intro j74 h
    replace h:=app1 hkj74 h
    refine G5 (fun K76 hK76=>Z9 (l':=[(1,Ed s),(3,.mp 1061),(5,Ef y68),(6,G1 j74),(31,E5 s.Columns),(32,En s.Columns.length),(33,En i68)]) (L':=[(1061,MP 240 He.kv G1 s68)]) ⟨(by repeat' constructor),⟨⟨_,rfl,.map⟩,ø⟩,rfl⟩ ?_)
    obtain⟨v77,hv77,h⟩:=Gf h
    obtain⟨v78,hv78,h⟩:=Hf h
    refine Jc [9,11] [0,0,0,0,0,0,0,0,0,0,1,0] [0,0,0,0,0,0,0,1,1,0,1,0] [[(1061,MP 240 He.kv G1 s68)],((1061,MI 240 He.kv G1 s68 (He.mk y68.Bay y68.Row j74) 0)::[(1061,MP 240 He.kv G1 s68)]),((1061,MP 240 He.kv G1 (Hh.put s68 (He.mk y68.Bay y68.Row j74) v78))::((1061,MI 240 He.kv G1 s68 (He.mk y68.Bay y68.Row j74) 0)::[(1061,MP 240 He.kv G1 s68)]))] J3 (by kernel_rfl) rfl rfl ?_
    refine Gb (u:=.mp 1061) G G ⟨Gh (G4 G G) G,ø⟩ (Gb (u:=Ef y68) G G ⟨Gh (Ge G22 G G G) G,ø⟩ (Gb (u:=G1 y68.Bay) G G ⟨Gh (Gk Gc G G G) G,ø⟩ (Gb (u:=.dptr ((Ga.cs y68).drop 1)) G G ⟨Gh (Ge G21 G G G) G,ø⟩ (Gb (u:=G1 y68.Row) G G ⟨Gh (Gk Gc G G G) G,ø⟩ (Gb (u:=G1 j74) G G ⟨Gh (G4 G G) G,ø⟩ (Gb (u:=.agg [G1 y68.Bay,G1 y68.Row,G1 j74]) G G ⟨Gh (Jaf (cs:=[G1 y68.Bay,G1 y68.Row,G1 j74]) [.int .i64 0,.int .i64 0,.int .i64 0] J7a J1d G G) G,ø⟩ (Gb (u:=G1 v77) G G ⟨Gh (((Option.some.inj hv77) ▸ H1b (av:=G1) (m:=s68) (a:=(He.mk y68.Bay y68.Row j74)) 0 (.int .i64 0) G G G G Hfd G93 Ge3 G)) G,Gh (((Option.some.inj hv77) ▸ Hd7 (av:=G1) (m:=s68) (a:=(He.mk y68.Bay y68.Row j74)) 0 (.int .i64 0) G G G G Hfd G93 Ge3 G)) G,ø⟩ (Gb (u:=G1 v78) G G ⟨Gh (Hj hv78 G G G) G,Gh (Hj hv78 G G G) G,ø⟩ (D_w (u:=.tup [.junk,G1 (G27 (Hh.l s68) (He.mk y68.Bay y68.Row j74):Int)]) G G G G (Gh (Hb0 (m:=s68) (a:=(He.mk y68.Bay y68.Row j74)) 0 (.int .i64 0) G G G G Hfd G93 Ge3 G) G) (Gb (u:=G1 (G27 (Hh.l s68) (He.mk y68.Bay y68.Row j74):Int)) G G ⟨Gh (Hm G G G) G,ø⟩ (Jbc (u:=.junk) G G G G (Gh (H48 (m:=s68) (a:=(He.mk y68.Bay y68.Row j74)) (v:=v78) 0 G G G G G G) G) (Rb ?_))))))))))))
    refine hK76 _ _ (G5 fun K79 hK79=>G3 (JLh (.agg (Ga.cs y68)) (Gi Y6 G G G) G ?_))
    obtain⟨r80,hr80,h⟩:=Gf h
    refine JLh (BL r80) (Gs (args:=[.agg (Ga.cs y68)]) G (J9c y68 r80 hr80) Jdb ⟨G,G,ø⟩) G (JLh (BL (!r80)) (Yu (b:=r80) G G) G (G9 (hK79 _ _ (Gp G (fun hb=>?_) (fun hb=>?_)))))
    ·
     replace h:=Gy hb h
     refine G5 fun K81 hK81=>G3 (JLh (BL false) (G8 G G) G (G9 (hK81 _ _ (Gx (⟨[BL false],[],ø,G,⟨⟨_,G,.conv (.same G)⟩,ø⟩,G,false,Eq.mpr (Option.some.inj h) hp,G⟩)))))
    ·
     replace h:=Hp hb h
     refine Gq (hK71 _ _ (G3 (JLh (G1 ((i68+1:Nat):Int)) (Hj (Hi hk68 hm32) G G G) G (JLh (G1 ((i68+1:Nat):Int)) (G4 G G) G (G9 (e68 _ _ (i68+1) (Hh.put s68 (He.mk y68.Bay y68.Row j74) v78) (app1 hn68 h) (by omega) ⟨(by repeat' constructor),⟨⟨_,rfl,.map⟩,ø⟩,rfl⟩))))))
  ·
   have h:=app1 hkx68 (Hz hi68 (Hg hb))
   refine Hc (hK6 _ _ (G5 (fun K82 hK82=>G5 fun K83 hK83=>G3 (JLh (.dptr [E4 s.Covers,G1 s.Light.Kilos,G1 s.Light.X,G1 s.Light.Y,G1 s.Light.Z,E7 s.Rows,E6 s.Frames,E8 s.Tanks,G1 s.G7.Tolerance,G1 s.G7.Trim,G1 s.G7.List_,G1 s.G7.Stability]) (Ge Qs G G G) G (JLh (E4 s.Covers) (Gk Rw G G G) G (H0 (f:=Gm.av) (xs:=s.Covers) J2 G G (fun hm56=>?_) G G G))))))
   refine JLh (G1 0) (G4 G G) G (G9 (hK83 _ _ (Gn ?_)))
   obtain⟨b84,kx84,hb84,hkx84,h⟩:=J9 h
   refine H7 (fun i84 (s84:(Hh He Int))=>each b84 kx84 (List.drop i84 s.Covers) i84 s84=some p) (fun i84 s84=>[(3,.mp 1061),(55,E4 s.Covers),(56,En s.Covers.length),(57,En i84)]) (fun i84 s84=>[(1061,MP 240 He.kv G1 s84)]) (fun i84=>s.Covers.length - i84) 0 s68 h ⟨(by repeat' constructor),⟨⟨_,rfl,.map⟩,ø⟩,rfl⟩ ?_
   clear h
   intro i84 s84 hi84 K84 e84
   refine G5 fun K85 hK85=>G3 (JLh (BL (decide ((i84:Int) < (s.Covers.length:Int)))) (Hx G G G) G (G9 (hK85 _ _ (G5 (fun K86 hK86=>Gp G (fun hb=>?_) (fun hb=>?_))))))
   ·
    have hk84:=Jm hb
    obtain⟨y84,nx84,hy84,hn84,h⟩:=Hy hi84 hk84
    replace h:=Zn hb84 h
    refine Gq (hK86 _ _ (G5 (fun K87 hK87=>Gn (G5 fun K88 hK88=>G3 (JLh (.dptr [G1 y84.Bay,E0 y84.Rows]) (Gv (f:=Gm.av) (xs:=s.Covers) (y:=y84) G G G J2 hy84 G) G (JLh (.agg [G1 y84.Bay,E0 y84.Rows]) (Gi Yv G G G) G (JLh (.ptr 1060 0) (Jn 1060 2 G67 G G) G (Jb (u:=.junk) (J4 (u:=.agg [G1 y84.Bay,E0 y84.Rows]) (ds:=[G1 y84.Bay,E0 y84.Rows]) G98 G G G G G G G G) (G9 (hK88 _ _ (Gz [(3,.mp 1061),(8,.dptr [G1 y84.Bay,E0 y84.Rows]),(55,E4 s.Covers),(56,En s.Covers.length),(57,En i84)] [(1061,MP 240 He.kv G1 s84)] 1060 rfl rfl rfl ⟨⟨_,rfl,.map⟩,ø⟩ rfl (by repeat' (first | exact .ptr | constructor)) (G5 (fun K89 hK89=>?_)))))))))))))
    refine G5 fun K90 hK90=>G3 (JLh (.dptr [G1 y84.Bay,E0 y84.Rows]) (Ge G00 G G G) G (JLh (G1 y84.Bay) (Gk Gc G G G) G (JLh (BL (decide (y84.Bay < 0))) (Hx G G G) G (JLh (BL (decide (y84.Bay < 0))) (G4 G G) G (Gd (u:=.dptr [G1 y84.Bay,E0 y84.Rows]) [] G G G .scf ø (fun hc=>Ge G00 G G G) ?_)))))
    refine Gd (u:=G1 y84.Bay) [(65,.dptr [G1 y84.Bay,E0 y84.Rows])] G G G .scf ⟨.all id,ø⟩ (fun hc=>Gk Gc G G G) ?_
    refine Gd (u:=BL (decide (40≤y84.Bay))) [(66,G1 y84.Bay)] G G G .scf ⟨.all id,ø⟩ (fun hc=>G28 G G G) ?_
    refine JLh (BL ((decide (y84.Bay < 0))||(decide (40≤y84.Bay)))) (Z5 G G G G) G (JLh (BL ((decide (y84.Bay < 0))||(decide (40≤y84.Bay)))) (G4 G G) G (Gd (u:=.dptr [E0 y84.Rows]) [] G G G .scf ø (fun hc=>Ge Jz G G G) ?_))
    refine Gd (u:=E0 y84.Rows) [(70,.dptr [E0 y84.Rows])] G G G .scf ⟨.all id,ø⟩ (fun hc=>Gk Hv G G G) ?_
    refine Gd (u:=En y84.Rows.length) [(71,E0 y84.Rows)] G G G .scf ⟨.all id,ø⟩ (fun hc=>Jp (f:=G1) (xs:=y84.Rows) Gt G G) ?_
    refine Gd (u:=BL (decide ((y84.Rows.length:Int)=0))) [(72,En y84.Rows.length)] G G G .scf ⟨.all id,ø⟩ (fun hc=>Rt G G G) ?_
    refine JLh (BL (((decide (y84.Bay < 0))||(decide (40≤y84.Bay)))||(decide ((y84.Rows.length:Int)=0)))) (Z5 G G G G) G (G9 (hK90 _ _ (Gp G (fun hb=>?_) (fun hb=>?_))))
    ·
     replace h:=Gy hb h
     refine G5 fun K91 hK91=>G3 (JLh (BL false) (G8 G G) G (G9 (hK91 _ _ (Gx (⟨[BL false],[],ø,G,⟨⟨_,G,.conv (.same G)⟩,ø⟩,G,false,Eq.mpr (Option.some.inj h) hp,G⟩)))))
    ·
     replace h:=Hp hb h
     refine Gq (hK89 _ _ (G5 fun K92 hK92=>G3 (JLh (.dptr [E0 y84.Rows]) (Ge Jz G G G) G (JLh (E0 y84.Rows) (Gk Hv G G G) G (H0 (f:=G1) (xs:=y84.Rows) Gt G G (fun hm77=>?_) G G G)))))
     refine JLh (G1 0) (G4 G G) G (G9 (hK92 _ _ (Gn ?_)))
     obtain⟨b157,kx157,hb157,hkx157,h⟩:=J9 h
     refine H7 (fun i157 (s157:(Hh He Int))=>each b157 kx157 (List.drop i157 y84.Rows) i157 s157=some p) (fun i157 s157=>[(3,.mp 1061),(8,.dptr [G1 y84.Bay,E0 y84.Rows]),(55,E4 s.Covers),(56,En s.Covers.length),(57,En i84),(76,E0 y84.Rows),(77,En y84.Rows.length),(78,En i157)]) (fun i157 s157=>[(1061,MP 240 He.kv G1 s157)]) (fun i157=>y84.Rows.length - i157) 0 s84 h ⟨(by repeat' constructor),⟨⟨_,rfl,.map⟩,ø⟩,rfl⟩ ?_
     clear h
     intro i157 s157 hi157 K157 e157
     refine G5 fun K158 hK158=>G3 (JLh (BL (decide ((i157:Int) < (y84.Rows.length:Int)))) (Hx G G G) G (G9 (hK158 _ _ (G5 (fun K159 hK159=>Gp G (fun hb=>?_) (fun hb=>?_))))))
     ·
      have hk157:=Jm hb
      obtain⟨y157,nx157,hy157,hn157,h⟩:=Hy hi157 hk157
      replace h:=Zn hb157 h
      refine Gq (hK159 _ _ (G5 (fun K160 hK160=>Gn (G5 fun K161 hK161=>G3 (JLh (En i157) (G4 G G) G (JLh (.dptr [G1 y157]) (Gv (f:=G1) (xs:=y84.Rows) (y:=y157) G G G Gt hy157 G) G (JLh (G1 y157) (Gk Gc G G G) G (JLh (En i157) (G8 G G) G (JLh (G1 y157) (G8 G G) G (G9 (hK161 _ _ (G5 (fun K162 hK162=>G5 fun K163 hK163=>G3 (JLh (G1 y157) (G4 G G) G (JLh (BL (decide (y157 < 0))) (Hx G G G) G (JLh (BL (decide (y157 < 0))) (G4 G G) G (Gd (u:=G1 y157) [] G G G .scf ø (fun hc=>G4 G G) ?_)))))))))))))))))
      refine Gd (u:=BL (decide (30 < y157))) [(86,G1 y157)] G G G .scf ⟨.all id,ø⟩ (fun hc=>Ya G G G) ?_
      refine JLh (BL ((decide (y157 < 0))||(decide (30 < y157)))) (Z5 G G G G) G (JLh (BL ((decide (y157 < 0))||(decide (30 < y157)))) (G4 G G) G (Gd (u:=En i157) [] G G G .scf ø (fun hc=>G4 G G) ?_))
      refine Gd (u:=BL (decide (0 < (i157:Int)))) [(90,En i157)] G G G .scf ⟨.all id,ø⟩ (fun hc=>Ya G G G) ?_
      refine Gd (u:=BL (decide (0 < (i157:Int)))) [(91,BL (decide (0 < (i157:Int))))] G G G .scf ⟨.all id,ø⟩ (fun hc=>G4 G G) ?_
      refine Gd (u:=G1 y157) [] G G G .optt ø (fun hc=>G4 G G) ?_
      refine Gd (u:=.dptr [E0 y84.Rows]) [] G G G .optt ø (fun hc=>Ge Jz G G G) ?_
      refine Gd (u:=E0 y84.Rows) [(94,.dptr [E0 y84.Rows])] G G G .optt ⟨.all id,ø⟩ (fun hc=>Gk Hv G G G) ?_
      refine Gd (u:=En i157) [] G G G .optt ø (fun hc=>G4 G G) ?_
      obtain⟨v164,hv164,h⟩:=Gf h
      refine Gd (u:=G1 v164) [(96,En i157)] G G G .optt ⟨.all id,ø⟩ (fun hc=>G1e (G02 (Gy hc hv164)) G G G) ?_
      obtain⟨y165,hy165,h⟩:=Gf h
      refine Gd (u:=.dptr [G1 y165]) [(95,E0 y84.Rows),(97,G1 v164)] G G G .optt ⟨.all id,.all id,ø⟩ (fun hc=>(match Q2 (Gy hc hy165) with | ⟨_,hm_,hy_⟩=>Gv (f:=G1) (xs:=y84.Rows) (y:=y165) G G G Gt hy_ hm_)) ?_
      refine Gd (u:=G1 y165) [(98,.dptr [G1 y165])] G G G .optt ⟨.all id,ø⟩ (fun hc=>Gk Gc G G G) ?_
      refine Gd (u:=BL (decide (y157≤y165))) [(93,G1 y157),(99,G1 y165)] G G G .optt ⟨.all id,.all id,ø⟩ (fun hc=>H81 G G G) ?_
      refine Gd (u:=BL ((decide (0 < (i157:Int)))&&(decide (y157≤y165)))) [(92,BL (decide (0 < (i157:Int)))),(100,_)] G G G .scf ⟨.all id,.part,ø⟩ (fun hc=>J7 G G G G) ?_
      refine JLh (BL (((decide (y157 < 0))||(decide (30 < y157)))||((decide (0 < (i157:Int)))&&(decide (y157≤y165))))) (Z5 G G G G) G (G9 (hK163 _ _ (Gp G (fun hb=>?_) (fun hb=>?_))))
      ·
       replace h:=Gy hb h
       refine G5 fun K166 hK166=>G3 (JLh (BL false) (G8 G G) G (G9 (hK166 _ _ (Gx (⟨[BL false],[],ø,G,⟨⟨_,G,.conv (.same G)⟩,ø⟩,G,false,Eq.mpr (Option.some.inj h) hp,G⟩)))))
      ·
       replace h:=Hp hb h
       refine Gq (hK162 _ _ (Z9 (l':=[(3,.mp 1061),(8,.dptr [G1 y84.Bay,E0 y84.Rows]),(10,G1 y157),(55,E4 s.Covers),(56,En s.Covers.length),(57,En i84),(76,E0 y84.Rows),(77,En y84.Rows.length),(78,En i157)]) (L':=[(1061,MP 240 He.kv G1 s157)]) ⟨(by repeat' constructor),⟨⟨_,rfl,.map⟩,ø⟩,rfl⟩ ?_))
       obtain⟨v167,hv167,h⟩:=Gf h
       obtain⟨v168,hv168,h⟩:=Hf h
       refine Jc [7,9] [0,0,0,0,0,0,0,0,1,0] [0,0,0,0,0,1,1,0,1,0] [[(1061,MP 240 He.kv G1 s157)],((1061,MI 240 He.kv G1 s157 (He.mk y84.Bay y157 2) 0)::[(1061,MP 240 He.kv G1 s157)]),((1061,MP 240 He.kv G1 (Hh.put s157 (He.mk y84.Bay y157 2) v168))::((1061,MI 240 He.kv G1 s157 (He.mk y84.Bay y157 2) 0)::[(1061,MP 240 He.kv G1 s157)]))] J3 (by kernel_rfl) rfl rfl ?_
       refine Gb (u:=.mp 1061) G G ⟨Gh (G4 G G) G,ø⟩ (Gb (u:=.dptr [G1 y84.Bay,E0 y84.Rows]) G G ⟨Gh (Ge G00 G G G) G,ø⟩ (Gb (u:=G1 y84.Bay) G G ⟨Gh (Gk Gc G G G) G,ø⟩ (Gb (u:=G1 y157) G G ⟨Gh (G4 G G) G,ø⟩ (Gb (u:=.agg [G1 y84.Bay,G1 y157,G1 2]) G G ⟨Gh (Jaf (cs:=[G1 y84.Bay,G1 y157,G1 2]) [.int .i64 0,.int .i64 0,.int .i64 0] J7a J1d G G) G,ø⟩ (Gb (u:=G1 v167) G G ⟨Gh (((Option.some.inj hv167) ▸ H1b (av:=G1) (m:=s157) (a:=(He.mk y84.Bay y157 2)) 0 (.int .i64 0) G G G G Hfd G93 Ge3 G)) G,Gh (((Option.some.inj hv167) ▸ Hd7 (av:=G1) (m:=s157) (a:=(He.mk y84.Bay y157 2)) 0 (.int .i64 0) G G G G Hfd G93 Ge3 G)) G,ø⟩ (Gb (u:=G1 v168) G G ⟨Gh (Hj hv168 G G G) G,Gh (Hj hv168 G G G) G,ø⟩ (D_w (u:=.tup [.junk,G1 (G27 (Hh.l s157) (He.mk y84.Bay y157 2):Int)]) G G G G (Gh (Hb0 (m:=s157) (a:=(He.mk y84.Bay y157 2)) 0 (.int .i64 0) G G G G Hfd G93 Ge3 G) G) (Gb (u:=G1 (G27 (Hh.l s157) (He.mk y84.Bay y157 2):Int)) G G ⟨Gh (Hm G G G) G,ø⟩ (Jbc (u:=.junk) G G G G (Gh (H48 (m:=s157) (a:=(He.mk y84.Bay y157 2)) (v:=v168) 0 G G G G G G) G) (Rb ?_))))))))))
       refine hK160 _ _ (G3 (JLh (G1 ((i157+1:Nat):Int)) (Hj (Hi hk157 hm77) G G G) G (JLh (G1 ((i157+1:Nat):Int)) (G4 G G) G (G9 (e157 _ _ (i157+1) (Hh.put s157 (He.mk y84.Bay y157 2) v168) (app1 hn157 h) (by omega) ⟨(by repeat' constructor),⟨⟨_,rfl,.map⟩,ø⟩,rfl⟩)))))
     ·
      have h:=app1 hkx157 (Hz hi157 (Hg hb))
      refine Hc (hK87 _ _ (G3 (JLh (G1 ((i84+1:Nat):Int)) (Hj (Hi hk84 hm56) G G G) G (JLh (G1 ((i84+1:Nat):Int)) (G4 G G) G (G9 (e84 _ _ (i84+1) s157 (app1 hn84 h) (by omega) ⟨(by repeat' constructor),⟨⟨_,rfl,.map⟩,ø⟩,rfl⟩))))))
   ·
    have h:=app1 hkx84 (Hz hi84 (Hg hb))
    refine Hc (hK82 _ _ (G5 (fun K169 hK169=>G5 fun K170 hK170=>G3 (JLh (.mp 1061) (G4 G G) G (JLh (.it 1062) (Hf7 1062 (m:=s84) G G G G G93) G (G9 (hK170 _ _ (Gn ?_))))))))
    obtain⟨b176,kx176,hb176,hkx176,h⟩:=He8 h
    refine Hf3 (Hh.size s84) (fun i176 (s176:Unit)=>MInv b176 kx176 (Hh.l s84) i176 s176) (fun i176 s176=>[(115,.it 1062)]) (fun i176 s176=>[(1061,MP 240 He.kv G1 s84),(1062,.iter 1061 (Hh.size s84) i176)]) () (MInv.start h hp) ⟨⟨.same G,ø⟩,⟨⟨_,G,.map⟩,⟨_,G,.iter G⟩,ø⟩,G⟩ ?_
    clear h hp
    intro i176 s176 hi176 K176 e176
    refine G5 fun K177 hK177=>G3 (H3b G G G (J65 (m:=s84) G G G G) ?_)
    intro u_ L_ hn_
    rcases hn_ with ⟨q176,x176,he176,hs176,rfl,rfl⟩ | ⟨ha176,rfl,rfl⟩
    ·
     obtain⟨o176,h,ho1_176,ho2_176⟩:=hi176.step he176 hs176
     replace h:=H82 hb176 h
     refine JLh (BL true) (Hm G G G) G (G9 (hK177 _ _ (G5 (fun K178 hK178=>Hf4 G (Gq (hK178 _ _ (Gn (G5 fun K179 hK179=>G3 (JLh (.tup [.agg (He.cs x176.1),G1 x176.2]) (Hf9 (kv:=He.kv) (av:=G1) (m:=s84) (q:=q176) (seen:=i176) (e:=x176) G G G G he176) G (JLh (G1 x176.2) (Hm G G G) G (JLh (G1 x176.2) (G8 G G) G (G9 (hK179 _ _ (G5 fun K180 hK180=>G3 (JLh (G1 x176.2) (G4 G G) G (JLh (BL (decide (1 < x176.2))) (Ya G G G) G (G9 (hK180 _ _ (Gp G (fun hb=>?_) (fun hb=>?_))))))))))))))))))))
     ·
      replace h:=Gy hb h
      refine G5 fun K181 hK181=>G3 (JLh (BL false) (G8 G G) G (G9 (hK181 _ _ (Gx ?_))))
      obtain⟨y_,hy_,hl_⟩:=lft_out h
      exact⟨[BL false],[],ø,G,⟨⟨_,G,.conv (.same G)⟩,ø⟩,G,false,Eq.mpr (Option.some.inj hl_) (ho1_176 y_ hy_),G⟩
     ·
      replace h:=Hp hb h
      refine Gq (e176 _ _ (i176++[q176]) () (ho2_176 _ (Option.some.inj h).symm) (Hb1 (List.getElem?_eq_some_iff.1 he176).1 hs176) ⟨⟨.same G,ø⟩,⟨⟨_,G,.map⟩,⟨_,G,.iter G⟩,ø⟩,G⟩)
    ·
     obtain⟨p_,h,hp⟩:=hi176.done ha176
     replace h:=app1 hkx176 h
     refine JLh (BL false) (Hm G G G) G (G9 (hK177 _ _ (G5 (fun K182 hK182=>Hae G (Hc (hK169 _ _ (G5 fun K183 hK183=>G3 (JLh (BL true) (G8 G G) G (G9 (hK183 _ _ (Gx (⟨[BL true],[],ø,G,⟨⟨_,G,.conv (.same G)⟩,ø⟩,G,true,Eq.mpr (Option.some.inj h) hp,G⟩))))))))))))
theorem J9e (S_:(J0)→Option Bool) (hS_:∀ s r,S_ s=some r→∃ p:Prop,Gb3 s (fun r_=>r_=r)=some p∧p) (s:J0) (r:Bool) (h:S_ s=some r):Pure Tryz.prog 71 [.agg (J0.cs s)] (·=BL r):=by
 obtain⟨p,h1,h2⟩:=hS_ s r h
 exact(J9d s _ p h1 h2).monoP (fun av hh=>by obtain⟨r_,rfl,ha⟩:=hh; exact ha)

def G52 (x:Int):Option Bool:=
 some (decide (x≠x))
theorem H39 (x:Int) (r:Bool) (h:G52 x=some r):Pure Tryz.prog 276 [G1 x] (·=BL r):=by
 unfold G52 at h
 refine H1 [.tmp 2] Tryz.func276 G G (G5 fun K1 hK1=>G3 (JLh (BL false) (G8 G G) G (G9 (hK1 _ _ (G5 fun K2 hK2=>G3 (JLh (G1 x) (G4 G G) G (JLh (G1 x) (G4 G G) G (JLh (BL (decide (x≠x))) (G14 G G G) G (JLh (BL (decide (x≠x))) (G8 G G) G (G9 (hK2 _ _ (Gx (⟨[BL (decide (x≠x))],[],ø,G,⟨⟨_,G,.conv (.same G)⟩,ø⟩,G,congrArg (fun r:Bool=>(BL r:AV)) (Option.some.inj h)⟩)))))))))))))

def G34 (x:Int) (y:Int):Option Int:=
 bnd (G52 x) fun r3=>
 bnd (G52 y) fun r5=>
 bif r3 then
 (bif r5 then
  (some 0)
  else
  (some (-1)))
 else
 (bif r5 then
  (some 1)
  else
  (bif decide (x < y) then
   (some (-1))
   else
   (bif decide (y < x) then
    (some 1)
    else
    (some 0))))
theorem Ge2 (x:Int) (y:Int) (r:Int) (h:G34 x y=some r):Pure Tryz.prog 217 [G1 x,G1 y] (·=G1 r):=by
 unfold G34 at h
 refine H1 [.tmp 4] Tryz.func217 G G (G5 fun K1 hK1=>G3 (JLh (G1 0) (G8 G G) G (G9 (hK1 _ _ (G5 fun K2 hK2=>G3 (JLh (G1 x) (G4 G G) G ?_))))))
 obtain⟨r3,hr3,h⟩:=Gf h
 refine JLh (BL r3) (Gs (args:=[G1 x]) G (H39 x r3 hr3) J21 ⟨G,G,ø⟩) G (JLh (BL r3) (G8 G G) G (G9 (hK2 _ _ (G5 fun K4 hK4=>G3 (JLh (G1 y) (G4 G G) G ?_)))))
 obtain⟨r5,hr5,h⟩:=Gf h
 refine JLh (BL r5) (Gs (args:=[G1 y]) G (H39 y r5 hr5) J21 ⟨G,G,ø⟩) G (JLh (BL r5) (G8 G G) G (G9 (hK4 _ _ (G5 (fun K6 hK6=>G5 fun K7 hK7=>G3 (JLh (BL r3) (G4 G G) G (G9 (hK7 _ _ (Gp G (fun hb=>?_) (fun hb=>?_))))))))))
 ·
  replace h:=Gy hb h
  refine G5 (fun K8 hK8=>G5 fun K9 hK9=>G3 (JLh (BL r5) (G4 G G) G (G9 (hK9 _ _ (Gp G (fun hb=>?_) (fun hb=>?_))))))
  ·
   replace h:=Gy hb h
   refine G5 fun K10 hK10=>G3 (JLh (G1 0) (G8 G G) G (G9 (hK10 _ _ (Gx (⟨[G1 0],[],ø,G,⟨⟨_,G,.conv (.same G)⟩,ø⟩,G,congrArg (fun r:Int=>(G1 r:AV)) (Option.some.inj h)⟩)))))
  ·
   replace h:=Hp hb h
   refine Gq (hK8 _ _ (G5 fun K11 hK11=>G3 (JLh (G1 (-1)) (G8 G G) G (G9 (hK11 _ _ (Gx (⟨[G1 (-1)],[],ø,G,⟨⟨_,G,.conv (.same G)⟩,ø⟩,G,congrArg (fun r:Int=>(G1 r:AV)) (Option.some.inj h)⟩)))))))
 ·
  replace h:=Hp hb h
  refine Gq (hK6 _ _ (G5 (fun K12 hK12=>G5 fun K13 hK13=>G3 (JLh (BL r5) (G4 G G) G (G9 (hK13 _ _ (Gp G (fun hb=>?_) (fun hb=>?_))))))))
  ·
   replace h:=Gy hb h
   refine G5 fun K14 hK14=>G3 (JLh (G1 1) (G8 G G) G (G9 (hK14 _ _ (Gx (⟨[G1 1],[],ø,G,⟨⟨_,G,.conv (.same G)⟩,ø⟩,G,congrArg (fun r:Int=>(G1 r:AV)) (Option.some.inj h)⟩)))))
  ·
   replace h:=Hp hb h
   refine Gq (hK12 _ _ (G5 (fun K15 hK15=>G5 fun K16 hK16=>G3 (JLh (G1 x) (G4 G G) G (JLh (G1 y) (G4 G G) G (JLh (BL (decide (x < y))) (Hx G G G) G (G9 (hK16 _ _ (Gp G (fun hb=>?_) (fun hb=>?_))))))))))
   ·
    replace h:=Gy hb h
    refine G5 fun K17 hK17=>G3 (JLh (G1 (-1)) (G8 G G) G (G9 (hK17 _ _ (Gx (⟨[G1 (-1)],[],ø,G,⟨⟨_,G,.conv (.same G)⟩,ø⟩,G,congrArg (fun r:Int=>(G1 r:AV)) (Option.some.inj h)⟩)))))
   ·
    replace h:=Hp hb h
    refine Gq (hK15 _ _ (G5 (fun K18 hK18=>G5 fun K19 hK19=>G3 (JLh (G1 x) (G4 G G) G (JLh (G1 y) (G4 G G) G (JLh (BL (decide (y < x))) (Ya G G G) G (G9 (hK19 _ _ (Gp G (fun hb=>?_) (fun hb=>?_))))))))))
    ·
     replace h:=Gy hb h
     refine G5 fun K20 hK20=>G3 (JLh (G1 1) (G8 G G) G (G9 (hK20 _ _ (Gx (⟨[G1 1],[],ø,G,⟨⟨_,G,.conv (.same G)⟩,ø⟩,G,congrArg (fun r:Int=>(G1 r:AV)) (Option.some.inj h)⟩)))))
    ·
     replace h:=Hp hb h
     refine Gq (hK18 _ _ (G5 fun K21 hK21=>G3 (JLh (G1 0) (G8 G G) G (G9 (hK21 _ _ (Gx (⟨[G1 0],[],ø,G,⟨⟨_,G,.conv (.same G)⟩,ø⟩,G,congrArg (fun r:Int=>(G1 r:AV)) (Option.some.inj h)⟩)))))))

def H7a (vals:List Int):Option Int:=
 each (fun y19 i19 (s19:Unit) nx19=>
  bif decide (y19≠0) then
  (some y19)
  else
  (nx19 ()))
 (fun(s19:Unit)=>
  some 0) vals 0 ()
theorem Ja0 (vals:List Int) (r:Int) (h:H7a vals=some r):Pure Tryz.prog 216 [E0 vals] (·=G1 r):=by
 unfold H7a at h
 refine H1 [.tmp 2] Tryz.func216 G G (G5 fun K1 hK1=>G3 (JLh (G1 0) (G8 G G) G (G9 (hK1 _ _ (G5 fun K2 hK2=>G3 (JLh (G1 0) (G8 G G) G (G9 (hK2 _ _ (G5 (fun K3 hK3=>G5 fun K4 hK4=>G3 (JLh (E0 vals) (G4 G G) G (H0 (f:=G1) (xs:=vals) Gt G G (fun hm7=>?_) G G G))))))))))))
 refine JLh (G1 0) (G4 G G) G (G9 (hK4 _ _ (Gn ?_)))
 obtain⟨b19,kx19,hb19,hkx19,h⟩:=J9 h
 refine H7 (fun i19 (s19:Unit)=>each b19 kx19 (List.drop i19 vals) i19 s19=some r) (fun i19 s19=>[(3,G1 0),(6,E0 vals),(7,En vals.length),(8,En i19)]) (fun i19 s19=>[]) (fun i19=>vals.length - i19) 0 () h ⟨(by repeat' constructor),ø,rfl⟩ ?_
 clear h
 intro i19 s19 hi19 K19 e19
 refine G5 fun K20 hK20=>G3 (JLh (BL (decide ((i19:Int) < (vals.length:Int)))) (Hx G G G) G (G9 (hK20 _ _ (G5 (fun K21 hK21=>Gp G (fun hb=>?_) (fun hb=>?_))))))
 ·
  have hk19:=Jm hb
  obtain⟨y19,nx19,hy19,hn19,h⟩:=Hy hi19 hk19
  replace h:=Zn hb19 h
  refine Gq (hK21 _ _ (G5 (fun K22 hK22=>Gn (G5 fun K23 hK23=>G3 (JLh (.dptr [G1 y19]) (Gv (f:=G1) (xs:=vals) (y:=y19) G G G Gt hy19 G) G (JLh (G1 y19) (Gk Gc G G G) G (JLh (G1 y19) (G8 G G) G (G9 (hK23 _ _ (G5 fun K24 hK24=>G3 (JLh (G1 y19) (G4 G G) G (JLh (G1 0) (G4 G G) G (JLh (BL (decide (y19≠0))) (G14 G G G) G (G9 (hK24 _ _ (Gp G (fun hb=>?_) (fun hb=>?_)))))))))))))))))
  ·
   replace h:=Gy hb h
   refine G5 fun K25 hK25=>G3 (JLh (G1 y19) (G4 G G) G (JLh (G1 y19) (G8 G G) G (G9 (hK25 _ _ (Gx (⟨[G1 y19],[],ø,G,⟨⟨_,G,.conv (.same G)⟩,ø⟩,G,congrArg (fun r:Int=>(G1 r:AV)) (Option.some.inj h)⟩))))))
  ·
   replace h:=Hp hb h
   refine Gq (hK22 _ _ (G3 (JLh (G1 ((i19+1:Nat):Int)) (Hj (Hi hk19 hm7) G G G) G (JLh (G1 ((i19+1:Nat):Int)) (G4 G G) G (G9 (e19 _ _ (i19+1) () (app1 hn19 h) (by omega) ⟨(by repeat' constructor),ø,rfl⟩))))))
 ·
  have h:=app1 hkx19 (Hz hi19 (Hg hb))
  refine Hc (hK3 _ _ (G5 fun K26 hK26=>G3 (JLh (G1 0) (G4 G G) G (JLh (G1 0) (G8 G G) G (G9 (hK26 _ _ (Gx (⟨[G1 0],[],ø,G,⟨⟨_,G,.conv (.same G)⟩,ø⟩,G,congrArg (fun r:Int=>(G1 r:AV)) (Option.some.inj h)⟩))))))))

def G8f (a:G6) (b:G6):Option Int:=
 bnd (G34 a.Load b.Load) fun r3=>
 bnd (G34 a.Discharge b.Discharge) fun r4=>
 bnd (H7a [r3,r4]) fun r5=>
 some r5
theorem Hee (a:G6) (b:G6) (r:Int) (h:G8f a b=some r):Pure Tryz.prog 104 [.agg [G1 a.Load,G1 a.Discharge],.agg [G1 b.Load,G1 b.Discharge]] (·=G1 r):=by
 unfold G8f at h
 refine H1 [.tmp 4] Tryz.func104 G G (G5 fun K1 hK1=>G3 (JLh (.ptr 1073 0) (Qi (u:=.agg [G1 a.Load,G1 a.Discharge]) (cs:=[G1 a.Load,G1 a.Discharge]) 1073 G G G G G) G (JLh (.ptr 1074 0) (Qi (u:=.agg [G1 b.Load,G1 b.Discharge]) (cs:=[G1 b.Load,G1 b.Discharge]) 1074 G G G G G) G (JLh (G1 0) (G8 G G) G (G9 (hK1 _ _ (Gz [(2,.dptr [G1 a.Load,G1 a.Discharge]),(3,.ptr 1074 0)] [(1074,.box 72 [G1 b.Load,G1 b.Discharge])] 1073 rfl rfl rfl ⟨⟨_,rfl,.boxEq rfl rfl⟩,ø⟩ rfl (by exact⟨.ptr,.conv (.same rfl),ø⟩) (Gz [(2,.dptr [G1 a.Load,G1 a.Discharge]),(3,.dptr [G1 b.Load,G1 b.Discharge])] [] 1074 rfl rfl rfl ø rfl (by exact⟨.conv (.same rfl),.ptr,ø⟩) (G5 (fun K2 hK2=>?_))))))))))
 obtain⟨r3,hr3,h⟩:=Gf h
 obtain⟨r4,hr4,h⟩:=Gf h
 obtain⟨r5,hr5,h⟩:=Gf h
 refine Jc [] [0,0,0,0,0,0,0,0,0,0,0,0,0] [0,0,0,0,0,0,0,0,0,0,0,0,0] [[]] J3 (by kernel_rfl) rfl rfl ?_
 refine Gb (u:=.dptr [G1 a.Load,G1 a.Discharge]) G G ⟨Gh (Ge Jv G G G) G,ø⟩ (Gb (u:=G1 a.Load) G G ⟨Gh (Gk Gc G G G) G,ø⟩ (Gb (u:=.dptr [G1 b.Load,G1 b.Discharge]) G G ⟨Gh (Ge Jv G G G) G,ø⟩ (Gb (u:=G1 b.Load) G G ⟨Gh (Gk Gc G G G) G,ø⟩ (Gb (u:=G1 r3) G G ⟨Gh (Gs (args:=[G1 a.Load,G1 b.Load]) G (Ge2 a.Load b.Load r3 hr3) J26 ⟨G,G,G,G,ø⟩) G,ø⟩ (Gb (u:=.dptr [G1 a.Discharge]) G G ⟨Gh (Ge Qb G G G) G,ø⟩ (Gb (u:=G1 a.Discharge) G G ⟨Gh (Gk Gc G G G) G,ø⟩ (Gb (u:=.dptr [G1 b.Discharge]) G G ⟨Gh (Ge Qb G G G) G,ø⟩ (Gb (u:=G1 b.Discharge) G G ⟨Gh (Gk Gc G G G) G,ø⟩ (Gb (u:=G1 r4) G G ⟨Gh (Gs (args:=[G1 a.Discharge,G1 b.Discharge]) G (Ge2 a.Discharge b.Discharge r4 hr4) J26 ⟨G,G,G,G,ø⟩) G,ø⟩ (Gb (u:=E0 [r3,r4]) G G ⟨Gh (Hs (xs:=[G1 r3,G1 r4]) G ⟨G,G,G,G,ø⟩ Gt G92 G G G G) G,ø⟩ (Gb (u:=G1 r5) G G ⟨Gh (Gs (args:=[E0 [r3,r4]]) G (Ja0 [r3,r4] r5 hr5) Jd0 ⟨G,G,ø⟩) G,ø⟩ (Gb (u:=G1 r5) G G ⟨Gh (G8 G G) G,ø⟩ (Rb ?_)))))))))))))
 refine hK2 _ _ (Gx (⟨[G1 r5],[],ø,G,⟨⟨_,G,.conv (.same G)⟩,ø⟩,G,congrArg (fun r:Int=>(G1 r:AV)) (Option.some.inj h)⟩))

def Z4 (a:G2) (b:G2):Option Int:=
 bnd (G8f a.G6 b.G6) fun r3=>
 some r3
theorem H19 (a:G2) (b:G2) (r:Int) (h:Z4 a b=some r):Pure Tryz.prog 103 [.agg [G1 a.G6.Load,G1 a.G6.Discharge,G1 a.Whole,G1 a.Half],.agg (G2.cs b)] (·=G1 r):=by
 unfold Z4 at h
 refine H1 [.tmp 4] Tryz.func103 G G (G5 fun K1 hK1=>G3 (JLh (.ptr 1071 0) (Qi (u:=.agg [G1 a.G6.Load,G1 a.G6.Discharge,G1 a.Whole,G1 a.Half]) (cs:=[G1 a.G6.Load,G1 a.G6.Discharge,G1 a.Whole,G1 a.Half]) 1071 G G G G G) G (JLh (.ptr 1072 0) (Qi (u:=.agg (G2.cs b)) (cs:=[G1 b.G6.Load,G1 b.G6.Discharge,G1 b.Whole,G1 b.Half]) 1072 G G G G G) G (JLh (G1 0) (G8 G G) G (G9 (hK1 _ _ (Gz [(2,.dptr [G1 a.G6.Load,G1 a.G6.Discharge,G1 a.Whole,G1 a.Half]),(3,.ptr 1072 0)] [(1072,.box 81 [G1 b.G6.Load,G1 b.G6.Discharge,G1 b.Whole,G1 b.Half])] 1071 rfl rfl rfl ⟨⟨_,rfl,.boxEq rfl rfl⟩,ø⟩ rfl (by exact⟨.ptr,.conv (.same rfl),ø⟩) ?_)))))))
 refine Gz [(2,.dptr [G1 a.G6.Load,G1 a.G6.Discharge,G1 a.Whole,G1 a.Half]),(3,Ee b)] [] 1072 rfl rfl rfl ø rfl (by exact⟨.conv (.same rfl),.ptr,ø⟩) (G5 fun K2 hK2=>G3 (JLh (.dptr [G1 a.G6.Load,G1 a.G6.Discharge,G1 a.Whole,G1 a.Half]) (Ge Ju G G G) G (JLh (.agg [G1 a.G6.Load,G1 a.G6.Discharge]) (Gi Ho G G G) G (JLh (Ee b) (Ge Ju G G G) G (JLh (.agg [G1 b.G6.Load,G1 b.G6.Discharge]) (Gi Ho G G G) G ?_)))))
 obtain⟨r3,hr3,h⟩:=Gf h
 refine JLh (G1 r3) (Gs (args:=[.agg [G1 a.G6.Load,G1 a.G6.Discharge],.agg [G1 b.G6.Load,G1 b.G6.Discharge]]) G (Hee a.G6 b.G6 r3 hr3) Je6 ⟨G,G,G,G,ø⟩) G (JLh (G1 r3) (G8 G G) G (G9 (hK2 _ _ (Gx (⟨[G1 r3],[],ø,G,⟨⟨_,G,.conv (.same G)⟩,ø⟩,G,congrArg (fun r:Int=>(G1 r:AV)) (Option.some.inj h)⟩)))))

def G04 (boxes:List H4) (Rp:(List G2)→Prop):Option Prop:=
 each (fun y85 i85 (s85:(Hh G6 G2)) nx85=>
  jp (fun kj88=>
   bnd (some (Hh.get s85 (G6.mk y85.Load y85.Discharge) (G2.mk (G6.mk 0 0) 0 0))) fun v92=>
   jp (fun kj94=>
    bif decide (y85.Size=40) then
    (Rm (v92.Whole+1) fun v97=>
     kj94 (v97,v92.Half))
    else
    (bif decide (y85.Size=20) then
     (Rm (v92.Half+1) fun v99=>
      kj94 (v92.Whole,v99))
     else
     (kj88 (s85,v92.Whole,v92.Half)))) fun(j94:Int×Int)=>
   kj88 ((Hh.put s85 (G6.mk y85.Load y85.Discharge) (G2.mk (G6.mk y85.Load y85.Discharge) j94.1 j94.2)),j94.1,j94.2)) fun(j88:(Hh G6 G2)×Int×Int)=>
  nx85 j88.1)
 (fun(s85:(Hh G6 G2))=>
  J93 (fun(x111:G6×G2) (s111:(List G2)) nx111=>
   need (decide ((s111.length+[x111.2].length)*32≤140737488355328∧s111.length+[x111.2].length≤maxLen)) <|
   nx111 (s111++[x111.2]))
  (fun(s111:(List G2))=>
   bnd (J7c (fun z0 z1=>Z4 z0 z1) s111) fun r118=>
   some (Rp r118)) (Hh.l s85) []) boxes 0 (Hh.empty:Hh G6 G2)
theorem J14 (boxes:List H4) (Rp:(List G2)→Prop) (p:Prop) (h:G04 boxes Rp=some p) (hp:p):Pure Tryz.prog 37 [E2 boxes] (fun av=>∃ r,Rp r∧av=E3 r):=by
 unfold G04 at h
 refine H1 [.tmp 2] Tryz.func37 G G (G5 fun K1 hK1=>G3 (JLh (E3 ([]:List G2)) (Rs 4 G G) G (G9 (hK1 _ _ (G5 fun K2 hK2=>G3 (JLh (.mp 1023) (H7c 1023 G6.kv G2.av G G) G (JLh (.mp 1023) (G8 G G) G (G9 (hK2 _ _ (G5 (fun K3 hK3=>G5 fun K4 hK4=>G3 (JLh (E2 boxes) (G4 G G) G (H0 (f:=H4.av) (xs:=boxes) Ht G G (fun hm13=>?_) G G G)))))))))))))
 refine JLh (G1 0) (G4 G G) G (G9 (hK4 _ _ (Gn ?_)))
 obtain⟨b85,kx85,hb85,hkx85,h⟩:=J9 h
 refine H7 (fun i85 (s85:(Hh G6 G2))=>each b85 kx85 (List.drop i85 boxes) i85 s85=some p) (fun i85 s85=>[(3,.mp 1023),(12,E2 boxes),(13,En boxes.length),(14,En i85)]) (fun i85 s85=>[(1023,MP 183 G6.kv G2.av s85)]) (fun i85=>boxes.length - i85) 0 (Hh.empty:Hh G6 G2) h ⟨(by repeat' constructor),⟨⟨_,rfl,.map⟩,ø⟩,rfl⟩ ?_
 clear h
 intro i85 s85 hi85 K85 e85
 refine G5 fun K86 hK86=>G3 (JLh (BL (decide ((i85:Int) < (boxes.length:Int)))) (Hx G G G) G (G9 (hK86 _ _ (G5 (fun K87 hK87=>Gp G (fun hb=>?_) (fun hb=>?_))))))
 ·
  have hk85:=Jm hb
  obtain⟨y85,nx85,hy85,hn85,h⟩:=Hy hi85 hk85
  replace h:=Zn hb85 h
  refine Gq (hK87 _ _ ?_)
  obtain⟨kj88,hkj88,h⟩:=G40 h
  refine G0b (fun j88:(Hh G6 G2)×Int×Int=>kj88 j88=some p) (fun j88=>[(3,.mp 1023),(12,E2 boxes),(13,En boxes.length),(14,En i85)]) (fun j88=>[(1023,MP 183 G6.kv G2.av j88.1),(1020,.box 81 [G1 y85.Load,G1 y85.Discharge,G1 j88.2.1,G1 j88.2.2])]) (fun Kj88 ej88=>?_) ?_
  ·
   refine Gn (G5 fun K89 hK89=>G3 (JLh (Eg y85) (Gv (f:=H4.av) (xs:=boxes) (y:=y85) G G G Ht hy85 G) G (JLh (.agg (H4.cs y85)) (Gi G62 G G G) G (JLh (.ptr 1018 0) (Jn 1018 9 G49 G G) G (Jb (u:=.junk) (J4 (u:=.agg (H4.cs y85)) (ds:=(H4.cs y85)) Gc9 G G G G G G G G) (G9 (hK89 _ _ (Gz [(3,.mp 1023),(5,Eg y85),(12,E2 boxes),(13,En boxes.length),(14,En i85)] [(1023,MP 183 G6.kv G2.av s85)] 1018 rfl rfl rfl ⟨⟨_,rfl,.map⟩,ø⟩ rfl (by repeat' (first | exact .ptr | constructor)) ?_))))))))
   refine G5 fun K90 hK90=>G3 (JLh (.dptr ((H4.cs y85).drop 5)) (Ge Zf G G G) G (JLh (G1 y85.Load) (Gk Gc G G G) G (JLh (.dptr ((H4.cs y85).drop 6)) (Ge Ze G G G) G (JLh (G1 y85.Discharge) (Gk Gc G G G) G (JLh (.agg [G1 y85.Load,G1 y85.Discharge]) (Q0 (cs:=[G1 y85.Load,G1 y85.Discharge]) [(0,1),(1,1)] [G1 0,G1 0] [.int .i64 0,.int .i64 0] G4b G5e ⟨.inl G,.inl G,ø⟩ G G) G (JLh (.ptr 1019 0) (Jn 1019 2 Zx G G) G (Jb (u:=.junk) (J4 (u:=.agg [G1 y85.Load,G1 y85.Discharge]) (ds:=[G1 y85.Load,G1 y85.Discharge]) G5f G G G G G G G G) (G9 (hK90 _ _ ?_)))))))))
   refine Gz [(3,.mp 1023),(5,Eg y85),(6,.dptr [G1 y85.Load,G1 y85.Discharge]),(12,E2 boxes),(13,En boxes.length),(14,En i85)] [(1023,MP 183 G6.kv G2.av s85)] 1019 rfl rfl rfl ⟨⟨_,rfl,.map⟩,ø⟩ rfl (by repeat' (first | exact .ptr | constructor)) (G5 fun K91 hK91=>G3 (JLh (.mp 1023) (G4 G G) G (JLh (.agg [G1 y85.Load,G1 y85.Discharge]) (Gi Ho G G G) G ?_)))
   obtain⟨v92,hv92,h⟩:=Gf h
   refine JLh (.agg (G2.cs v92)) (((Option.some.inj hv92) ▸ H1b (av:=G2.av) (m:=s85) (a:=(G6.mk y85.Load y85.Discharge)) (G2.mk (G6.mk 0 0) 0 0) (.agg #[.int .i64 0,.int .i64 0,.int .i64 0,.int .i64 0]) G G G G J6c Gbb Jbf G)) G (JLh (.ptr 1020 0) (Jn 1020 4 R9 G G) G (Jb (u:=.junk) (J4 (u:=.agg (G2.cs v92)) (ds:=[G1 v92.G6.Load,G1 v92.G6.Discharge,G1 v92.Whole,G1 v92.Half]) G1f G G G G G G G G) (G9 (hK91 _ _ ?_))))
   refine G5 fun K93 hK93=>G3 (JLh (.agg [G1 y85.Load,G1 y85.Discharge]) (Gi Ho G G G) G (JLh (.ptr 1020 0) (Qr Ju G G) G (Jb (u:=.junk) (J4 (u:=.agg [G1 y85.Load,G1 y85.Discharge]) (ds:=[G1 y85.Load,G1 y85.Discharge,G1 v92.Whole,G1 v92.Half]) G5f G G G G G G G G) (G9 (hK93 _ _ ?_)))))
   obtain⟨kj94,hkj94,h⟩:=G40 h
   refine G0b (fun j94:Int×Int=>kj94 j94=some p) (fun j94=>[(3,.mp 1023),(6,.dptr [G1 y85.Load,G1 y85.Discharge]),(7,.ptr 1020 0),(12,E2 boxes),(13,En boxes.length),(14,En i85)]) (fun j94=>[(1023,MP 183 G6.kv G2.av s85),(1020,.box 81 [G1 y85.Load,G1 y85.Discharge,G1 j94.1,G1 j94.2])]) (fun Kj94 ej94=>?_) ?_
   ·
    refine G5 fun K95 hK95=>G3 (JLh (.dptr ((H4.cs y85).drop 2)) (Ge Zz G G G) G (JLh (U8 y85.Size) (Gk G47 G G G) G (G9 (hK95 _ _ (Gn (G5 fun K96 hK96=>G3 (JLh (BL (decide (y85.Size=40))) (Rt G G G) G (JLh (BL (decide (y85.Size=40))) (G8 G G) G (G9 (hK96 _ _ (Gp G (fun hb=>?_) (fun hb=>?_))))))))))))
    ·
     replace h:=Gy hb h
     refine G3 (JLh (.ptr 1020 2) (Qr G1b G G) G (JLh (G1 v92.Whole) (G35 Gc G G G G) G ?_))
     obtain⟨v97,hv97,h⟩:=Hf h
     refine JLh (G1 v97) (Hj hv97 G G G) G (JLh (.ptr 1020 2) (Qr G1b G G) G (Jb (u:=.junk) (J4 (u:=G1 v97) (ds:=[G1 y85.Load,G1 y85.Discharge,G1 v97,G1 v92.Half]) Zq G G G G G G G G) (G9 (ej94 _ _ (v97,v92.Half) h ⟨(by repeat' constructor),⟨⟨_,rfl,.map⟩,⟨_,rfl,.boxL rfl (by repeat' constructor)⟩,ø⟩,rfl⟩))))
    ·
     replace h:=Hp hb h
     refine G5 fun K98 hK98=>G3 (JLh (BL (decide (y85.Size=20))) (Rt G G G) G (JLh (BL (decide (y85.Size=20))) (G8 G G) G (G9 (hK98 _ _ (Gp G (fun hb=>?_) (fun hb=>?_))))))
     ·
      replace h:=Gy hb h
      refine G3 (JLh (.ptr 1020 3) (Qr G1a G G) G (JLh (G1 v92.Half) (G35 Gc G G G G) G ?_))
      obtain⟨v99,hv99,h⟩:=Hf h
      refine JLh (G1 v99) (Hj hv99 G G G) G (JLh (.ptr 1020 3) (Qr G1a G G) G (Jb (u:=.junk) (J4 (u:=G1 v99) (ds:=[G1 y85.Load,G1 y85.Discharge,G1 v92.Whole,G1 v99]) Zq G G G G G G G G) (G9 (ej94 _ _ (v92.Whole,v99) h ⟨(by repeat' constructor),⟨⟨_,rfl,.map⟩,⟨_,rfl,.boxL rfl (by repeat' constructor)⟩,ø⟩,rfl⟩))))
     ·
      replace h:=Hp hb h
      refine Hc (ej88 _ _ (s85,v92.Whole,v92.Half) h ⟨(by repeat' constructor),⟨⟨_,rfl,.map⟩,⟨_,rfl,.boxL rfl (by repeat' constructor)⟩,ø⟩,rfl⟩)
   ·intro j94 h
    replace h:=app1 hkj94 h
    refine G3 (JLh (.mp 1023) (G4 G G) G (JLh (.agg [G1 y85.Load,G1 y85.Discharge]) (Gi Ho G G G) G (JLh (.agg [G1 y85.Load,G1 y85.Discharge,G1 j94.1,G1 j94.2]) (H7d R0 G G G G) G (Jb (u:=.junk) (Hf8 (m:=s85) (a:=(G6.mk y85.Load y85.Discharge)) (v:=(G2.mk (G6.mk y85.Load y85.Discharge) j94.1 j94.2)) G G G G G G J6c Gbb) (G9 (ej88 _ _ ((Hh.put s85 (G6.mk y85.Load y85.Discharge) (G2.mk (G6.mk y85.Load y85.Discharge) j94.1 j94.2)),j94.1,j94.2) h ⟨(by repeat' constructor),⟨⟨_,rfl,.map⟩,⟨_,rfl,.boxL rfl (by repeat' constructor)⟩,ø⟩,rfl⟩))))))
  ·intro j88 h
   replace h:=app1 hkj88 h
   refine G3 (JLh (G1 ((i85+1:Nat):Int)) (Hj (Hi hk85 hm13) G G G) G (JLh (G1 ((i85+1:Nat):Int)) (G4 G G) G (G9 (e85 _ _ (i85+1) j88.1 (app1 hn85 h) (by omega) ⟨(by repeat' constructor),⟨⟨_,rfl,.map⟩,ø⟩,rfl⟩))))
 ·
  have h:=app1 hkx85 (Hz hi85 (Hg hb))
  refine Hc (hK3 _ _ (G5 fun K100 hK100=>G3 (JLh (.vec 1021 (([]:List G2).length) 4 (([]:List G2).length)) (Jab 1021 81 4 G G G) G (G9 (hK100 _ _ (G5 (fun K101 hK101=>G5 fun K102 hK102=>G3 (JLh (.mp 1023) (G4 G G) G (JLh (.it 1024) (Hf7 1024 (m:=s85) G G G G Gbb) G (G9 (hK102 _ _ (Gn ?_))))))))))))
  obtain⟨b111,kx111,hb111,hkx111,h⟩:=He8 h
  refine Hf3 (Hh.size s85) (fun i111 (s111:(List G2))=>MInv b111 kx111 (Hh.l s85) i111 s111) (fun i111 s111=>[(8,.vec 1021 s111.length 4 s111.length),(47,.it 1024)]) (fun i111 s111=>[(1023,MP 183 G6.kv G2.av s85),(1021,.vec 81 4 s111.length (s111.map G2.av)),(1024,.iter 1023 (Hh.size s85) i111)]) [] (MInv.start h hp) ⟨⟨.same G,.same G,ø⟩,⟨⟨_,G,.map⟩,⟨_,G,.vec⟩,⟨_,G,.iter G⟩,ø⟩,G⟩ ?_
  clear h hp
  intro i111 s111 hi111 K111 e111
  refine G5 fun K112 hK112=>G3 (H3b G G G (J65 (m:=s85) G G G G) ?_)
  intro u_ L_ hn_
  rcases hn_ with ⟨q111,x111,he111,hs111,rfl,rfl⟩ | ⟨ha111,rfl,rfl⟩
  ·
   obtain⟨o111,h,ho1_111,ho2_111⟩:=hi111.step he111 hs111
   replace h:=H82 hb111 h
   refine JLh (BL true) (Hm G G G) G (G9 (hK112 _ _ (G5 (fun K113 hK113=>Hf4 G (Gq (hK113 _ _ (Gn (G5 fun K114 hK114=>G3 (JLh (.tup [.agg [G1 x111.1.Load,G1 x111.1.Discharge],.agg (G2.cs x111.2)]) (Hf9 (kv:=G6.kv) (av:=G2.av) (m:=s85) (q:=q111) (seen:=i111) (e:=x111) G G G G he111) G (JLh (.agg (G2.cs x111.2)) (Hm G G G) G (JLh (.ptr 1022 0) (Jn 1022 4 R9 G G) G (Jb (u:=.junk) (J4 (u:=.agg (G2.cs x111.2)) (ds:=[G1 x111.2.G6.Load,G1 x111.2.G6.Discharge,G1 x111.2.Whole,G1 x111.2.Half]) G1f G G G G G G G G) (G9 (hK114 _ _ ?_))))))))))))))
   refine Gz [(8,.vec 1021 s111.length 4 s111.length),(10,Ee x111.2),(47,.it 1024)] [(1023,MP 183 G6.kv G2.av s85),(1021,.vec 81 4 s111.length (s111.map G2.av)),(1024,.iter 1023 (Hh.size s85) (i111++[q111]))] 1022 rfl rfl rfl ⟨⟨_,rfl,.map⟩,⟨_,rfl,.vec⟩,⟨_,rfl,.iter rfl⟩,ø⟩ rfl (by exact⟨.conv (.same rfl),.ptr,.conv (.same rfl),ø⟩) (G3 (JLh (.vec 1021 s111.length 4 s111.length) (G4 G G) G (JLh (.agg (G2.cs x111.2)) (Gi R0 G G G) G (JLh (E3 [x111.2]) (Hs (xs:=[.agg (G2.cs x111.2)]) G ⟨G,G,ø⟩ H8 R9 G G G G) G ?_))))
   obtain⟨ha115,h⟩:=Hr h
   refine JLh (.vec 1021 ((s111++[x111.2]).length) 4 ((s111++[x111.2]).length)) (Jac (f:=G2.av) (xs:=s111) (ys:=[x111.2]) (ver:=s111.length) (ver1:=(s111++[x111.2]).length) rfl rfl rfl rfl H8 G94 ha115 (fun _=>rfl) (.inl rfl) (by simp)) G (JLh (.vec 1021 ((s111++[x111.2]).length) 4 ((s111++[x111.2]).length)) (G8 G G) G (G9 (e111 _ _ (i111++[q111]) (s111++[x111.2]) (ho2_111 _ (Option.some.inj h).symm) (Hb1 (List.getElem?_eq_some_iff.1 he111).1 hs111) ⟨⟨.same G,.same G,ø⟩,⟨⟨_,G,.map⟩,⟨_,G,.vec⟩,⟨_,G,.iter G⟩,ø⟩,G⟩)))
  ·
   obtain⟨p_,h,hp⟩:=hi111.done ha111
   replace h:=app1 hkx111 h
   refine JLh (BL false) (Hm G G G) G (G9 (hK112 _ _ (G5 (fun K116 hK116=>Hae G (Hc (hK101 _ _ (G5 fun K117 hK117=>G3 (JLh (.vec 1021 s111.length 4 s111.length) (G4 G G) G ?_))))))))
   obtain⟨r118,hr118,h⟩:=Gf h
   refine JLh (.tup []) (A_sortM (f:=G2.av) (cmp:=(fun z0 z1=>Z4 z0 z1)) (xs:=s111) (r:=r118) G2.vs G J37 Hdd (fun _=>G) (fun _=>G) (fun _=>cells1 G) J34 J33 G G G G G hr118 (fun z0 z1 q hq=>H19 z0 z1 q hq) G) G (G9 (hK117 _ _ (G5 fun K119 hK119=>G3 (JLh (.vec 1021 s111.length 4 s111.length) (G4 G G) G (JLh (.vec 1021 s111.length 4 s111.length) (G8 G G) G (G9 (hK119 _ _ (Ja5 [(2,E3 r118)] [] 1021 rfl rfl ø rfl (by exact⟨.vec,ø⟩) (Gx (⟨[E3 r118],[],ø,G,⟨⟨_,G,.conv (.same G)⟩,ø⟩,G,r118,Eq.mpr (Option.some.inj h) hp,G⟩))))))))))
theorem J15 (S_:(List H4)→Option (List G2)) (hS_:∀ boxes r,S_ boxes=some r→∃ p:Prop,G04 boxes (fun r_=>r_=r)=some p∧p) (boxes:List H4) (r:(List G2)) (h:S_ boxes=some r):Pure Tryz.prog 37 [E2 boxes] (·=E3 r):=by
 obtain⟨p,h1,h2⟩:=hS_ boxes r h
 exact(J14 boxes _ p h1 h2).monoP (fun av hh=>by obtain⟨r_,rfl,ha⟩:=hh; exact ha)


theorem Hf1 (boxes:List H4) (Rp:(List G2)→Prop) (p:Prop) (h:G04 boxes Rp=some p) (hp:p):Za Tryz.prog 37 [E2 boxes] [] (fun av L'=>∃ p:Nat,∃ r,Rp r∧av=.vec 1021 p 4 r.length∧L'=[(1021,.vec 81 4 p (r.map G2.av))]):=by
 unfold G04 at h
 refine Gc4 [] [.tmp 2] Tryz.func37 G G (inAll G) (G5 fun K1 hK1=>G3 (JLh (.vec 1017 (([]:List G2).length) 4 (([]:List G2).length)) (Jab 1017 81 4 G G G) G (G9 (hK1 _ _ (G5 fun K2 hK2=>G3 (JLh (.mp 1023) (H7c 1023 G6.kv G2.av G G) G (JLh (.mp 1023) (G8 G G) G (G9 (hK2 _ _ (G5 (fun K3 hK3=>G5 fun K4 hK4=>G3 (JLh (E2 boxes) (G4 G G) G (H0 (f:=H4.av) (xs:=boxes) Ht G G (fun hm13=>?_) G G G)))))))))))))
 refine JLh (G1 0) (G4 G G) G (G9 (hK4 _ _ (Gn ?_)))
 obtain⟨b85,kx85,hb85,hkx85,h⟩:=J9 h
 refine H7 (fun i85 (s85:(Hh G6 G2))=>each b85 kx85 (List.drop i85 boxes) i85 s85=some p) (fun i85 s85=>[(3,.mp 1023),(12,E2 boxes),(13,En boxes.length),(14,En i85)]) (fun i85 s85=>[(1017,.vec 81 4 (([]:List G2).length) (([]:List G2).map G2.av)),(1023,MP 183 G6.kv G2.av s85)]) (fun i85=>boxes.length - i85) 0 (Hh.empty:Hh G6 G2) h ⟨(by repeat' constructor),⟨⟨_,rfl,.vec⟩,⟨_,rfl,.map⟩,ø⟩,rfl⟩ ?_
 clear h
 intro i85 s85 hi85 K85 e85
 refine G5 fun K86 hK86=>G3 (JLh (BL (decide ((i85:Int) < (boxes.length:Int)))) (Hx G G G) G (G9 (hK86 _ _ (G5 (fun K87 hK87=>Gp G (fun hb=>?_) (fun hb=>?_))))))
 ·
  have hk85:=Jm hb
  obtain⟨y85,nx85,hy85,hn85,h⟩:=Hy hi85 hk85
  replace h:=Zn hb85 h
  refine Gq (hK87 _ _ ?_)
  obtain⟨kj88,hkj88,h⟩:=G40 h
  refine G0b (fun j88:(Hh G6 G2)×Int×Int=>kj88 j88=some p) (fun j88=>[(3,.mp 1023),(12,E2 boxes),(13,En boxes.length),(14,En i85)]) (fun j88=>[(1017,.vec 81 4 (([]:List G2).length) (([]:List G2).map G2.av)),(1023,MP 183 G6.kv G2.av j88.1),(1020,.box 81 [G1 y85.Load,G1 y85.Discharge,G1 j88.2.1,G1 j88.2.2])]) (fun Kj88 ej88=>?_) ?_
  ·
   refine Gn (G5 fun K89 hK89=>G3 (JLh (Eg y85) (Gv (f:=H4.av) (xs:=boxes) (y:=y85) G G G Ht hy85 G) G (JLh (.agg (H4.cs y85)) (Gi G62 G G G) G (JLh (.ptr 1018 0) (Jn 1018 9 G49 G G) G (Jb (u:=.junk) (J4 (u:=.agg (H4.cs y85)) (ds:=(H4.cs y85)) Gc9 G G G G G G G G) (G9 (hK89 _ _ ?_)))))))
   refine Gz [(3,.mp 1023),(5,Eg y85),(12,E2 boxes),(13,En boxes.length),(14,En i85)] [(1017,.vec 81 4 (([]:List G2).length) (([]:List G2).map G2.av)),(1023,MP 183 G6.kv G2.av s85)] 1018 rfl rfl rfl ⟨⟨_,rfl,.vec⟩,⟨_,rfl,.map⟩,ø⟩ rfl (by repeat' (first | exact .ptr | constructor)) ?_
   refine G5 fun K90 hK90=>G3 (JLh (.dptr ((H4.cs y85).drop 5)) (Ge Zf G G G) G (JLh (G1 y85.Load) (Gk Gc G G G) G (JLh (.dptr ((H4.cs y85).drop 6)) (Ge Ze G G G) G (JLh (G1 y85.Discharge) (Gk Gc G G G) G (JLh (.agg [G1 y85.Load,G1 y85.Discharge]) (Q0 (cs:=[G1 y85.Load,G1 y85.Discharge]) [(0,1),(1,1)] [G1 0,G1 0] [.int .i64 0,.int .i64 0] G4b G5e ⟨.inl G,.inl G,ø⟩ G G) G (JLh (.ptr 1019 0) (Jn 1019 2 Zx G G) G (Jb (u:=.junk) (J4 (u:=.agg [G1 y85.Load,G1 y85.Discharge]) (ds:=[G1 y85.Load,G1 y85.Discharge]) G5f G G G G G G G G) (G9 (hK90 _ _ ?_)))))))))
   refine Gz [(3,.mp 1023),(5,Eg y85),(6,.dptr [G1 y85.Load,G1 y85.Discharge]),(12,E2 boxes),(13,En boxes.length),(14,En i85)] [(1017,.vec 81 4 (([]:List G2).length) (([]:List G2).map G2.av)),(1023,MP 183 G6.kv G2.av s85)] 1019 rfl rfl rfl ⟨⟨_,rfl,.vec⟩,⟨_,rfl,.map⟩,ø⟩ rfl (by repeat' (first | exact .ptr | constructor)) (G5 fun K91 hK91=>G3 (JLh (.mp 1023) (G4 G G) G (JLh (.agg [G1 y85.Load,G1 y85.Discharge]) (Gi Ho G G G) G ?_)))
   obtain⟨v92,hv92,h⟩:=Gf h
   refine JLh (.agg (G2.cs v92)) (((Option.some.inj hv92) ▸ H1b (av:=G2.av) (m:=s85) (a:=(G6.mk y85.Load y85.Discharge)) (G2.mk (G6.mk 0 0) 0 0) (.agg #[.int .i64 0,.int .i64 0,.int .i64 0,.int .i64 0]) G G G G J6c Gbb Jbf G)) G (JLh (.ptr 1020 0) (Jn 1020 4 R9 G G) G (Jb (u:=.junk) (J4 (u:=.agg (G2.cs v92)) (ds:=[G1 v92.G6.Load,G1 v92.G6.Discharge,G1 v92.Whole,G1 v92.Half]) G1f G G G G G G G G) (G9 (hK91 _ _ ?_))))
   refine G5 fun K93 hK93=>G3 (JLh (.agg [G1 y85.Load,G1 y85.Discharge]) (Gi Ho G G G) G (JLh (.ptr 1020 0) (Qr Ju G G) G (Jb (u:=.junk) (J4 (u:=.agg [G1 y85.Load,G1 y85.Discharge]) (ds:=[G1 y85.Load,G1 y85.Discharge,G1 v92.Whole,G1 v92.Half]) G5f G G G G G G G G) (G9 (hK93 _ _ ?_)))))
   obtain⟨kj94,hkj94,h⟩:=G40 h
   refine G0b (fun j94:Int×Int=>kj94 j94=some p) (fun j94=>[(3,.mp 1023),(6,.dptr [G1 y85.Load,G1 y85.Discharge]),(7,.ptr 1020 0),(12,E2 boxes),(13,En boxes.length),(14,En i85)]) (fun j94=>[(1017,.vec 81 4 (([]:List G2).length) (([]:List G2).map G2.av)),(1023,MP 183 G6.kv G2.av s85),(1020,.box 81 [G1 y85.Load,G1 y85.Discharge,G1 j94.1,G1 j94.2])]) (fun Kj94 ej94=>?_) ?_
   ·
    refine G5 fun K95 hK95=>G3 (JLh (.dptr ((H4.cs y85).drop 2)) (Ge Zz G G G) G (JLh (U8 y85.Size) (Gk G47 G G G) G (G9 (hK95 _ _ (Gn (G5 fun K96 hK96=>G3 (JLh (BL (decide (y85.Size=40))) (Rt G G G) G (JLh (BL (decide (y85.Size=40))) (G8 G G) G (G9 (hK96 _ _ (Gp G (fun hb=>?_) (fun hb=>?_))))))))))))
    ·
     replace h:=Gy hb h
     refine G3 (JLh (.ptr 1020 2) (Qr G1b G G) G (JLh (G1 v92.Whole) (G35 Gc G G G G) G ?_))
     obtain⟨v97,hv97,h⟩:=Hf h
     refine JLh (G1 v97) (Hj hv97 G G G) G (JLh (.ptr 1020 2) (Qr G1b G G) G (Jb (u:=.junk) (J4 (u:=G1 v97) (ds:=[G1 y85.Load,G1 y85.Discharge,G1 v97,G1 v92.Half]) Zq G G G G G G G G) (G9 (ej94 _ _ (v97,v92.Half) h ⟨(by repeat' constructor),⟨⟨_,rfl,.vec⟩,⟨_,rfl,.map⟩,⟨_,rfl,.boxL rfl (by repeat' constructor)⟩,ø⟩,rfl⟩))))
    ·
     replace h:=Hp hb h
     refine G5 fun K98 hK98=>G3 (JLh (BL (decide (y85.Size=20))) (Rt G G G) G (JLh (BL (decide (y85.Size=20))) (G8 G G) G (G9 (hK98 _ _ (Gp G (fun hb=>?_) (fun hb=>?_))))))
     ·
      replace h:=Gy hb h
      refine G3 (JLh (.ptr 1020 3) (Qr G1a G G) G (JLh (G1 v92.Half) (G35 Gc G G G G) G ?_))
      obtain⟨v99,hv99,h⟩:=Hf h
      refine JLh (G1 v99) (Hj hv99 G G G) G (JLh (.ptr 1020 3) (Qr G1a G G) G (Jb (u:=.junk) (J4 (u:=G1 v99) (ds:=[G1 y85.Load,G1 y85.Discharge,G1 v92.Whole,G1 v99]) Zq G G G G G G G G) (G9 (ej94 _ _ (v92.Whole,v99) h ⟨(by repeat' constructor),⟨⟨_,rfl,.vec⟩,⟨_,rfl,.map⟩,⟨_,rfl,.boxL rfl (by repeat' constructor)⟩,ø⟩,rfl⟩))))
     ·
      replace h:=Hp hb h
      refine Hc (ej88 _ _ (s85,v92.Whole,v92.Half) h ⟨(by repeat' constructor),⟨⟨_,rfl,.vec⟩,⟨_,rfl,.map⟩,⟨_,rfl,.boxL rfl (by repeat' constructor)⟩,ø⟩,rfl⟩)
   ·intro j94 h
    replace h:=app1 hkj94 h
    refine G3 (JLh (.mp 1023) (G4 G G) G (JLh (.agg [G1 y85.Load,G1 y85.Discharge]) (Gi Ho G G G) G (JLh (.agg [G1 y85.Load,G1 y85.Discharge,G1 j94.1,G1 j94.2]) (H7d R0 G G G G) G (Jb (u:=.junk) (Hf8 (m:=s85) (a:=(G6.mk y85.Load y85.Discharge)) (v:=(G2.mk (G6.mk y85.Load y85.Discharge) j94.1 j94.2)) G G G G G G J6c Gbb) (G9 (ej88 _ _ ((Hh.put s85 (G6.mk y85.Load y85.Discharge) (G2.mk (G6.mk y85.Load y85.Discharge) j94.1 j94.2)),j94.1,j94.2) h ⟨(by repeat' constructor),⟨⟨_,rfl,.vec⟩,⟨_,rfl,.map⟩,⟨_,rfl,.boxL rfl (by repeat' constructor)⟩,ø⟩,rfl⟩))))))
  ·intro j88 h
   replace h:=app1 hkj88 h
   refine G3 (JLh (G1 ((i85+1:Nat):Int)) (Hj (Hi hk85 hm13) G G G) G (JLh (G1 ((i85+1:Nat):Int)) (G4 G G) G (G9 (e85 _ _ (i85+1) j88.1 (app1 hn85 h) (by omega) ⟨(by repeat' constructor),⟨⟨_,rfl,.vec⟩,⟨_,rfl,.map⟩,ø⟩,rfl⟩))))
 ·
  have h:=app1 hkx85 (Hz hi85 (Hg hb))
  refine Hc (hK3 _ _ (G5 fun K100 hK100=>G3 (JLh (.vec 1021 (([]:List G2).length) 4 (([]:List G2).length)) (Jab 1021 81 4 G G G) G (G9 (hK100 _ _ (G5 (fun K101 hK101=>G5 fun K102 hK102=>G3 (JLh (.mp 1023) (G4 G G) G (JLh (.it 1024) (Hf7 1024 (m:=s85) G G G G Gbb) G (G9 (hK102 _ _ (Gn ?_))))))))))))
  obtain⟨b111,kx111,hb111,hkx111,h⟩:=He8 h
  refine Hf3 (Hh.size s85) (fun i111 (s111:(List G2))=>MInv b111 kx111 (Hh.l s85) i111 s111) (fun i111 s111=>[(8,.vec 1021 s111.length 4 s111.length),(47,.it 1024)]) (fun i111 s111=>[(1017,.vec 81 4 (([]:List G2).length) (([]:List G2).map G2.av)),(1023,MP 183 G6.kv G2.av s85),(1021,.vec 81 4 s111.length (s111.map G2.av)),(1024,.iter 1023 (Hh.size s85) i111)]) [] (MInv.start h hp) ⟨⟨.same G,.same G,ø⟩,⟨⟨_,G,.vec⟩,⟨_,G,.map⟩,⟨_,G,.vec⟩,⟨_,G,.iter G⟩,ø⟩,G⟩ ?_
  clear h hp
  intro i111 s111 hi111 K111 e111
  refine G5 fun K112 hK112=>G3 (H3b G G G (J65 (m:=s85) G G G G) ?_)
  intro u_ L_ hn_
  rcases hn_ with ⟨q111,x111,he111,hs111,rfl,rfl⟩ | ⟨ha111,rfl,rfl⟩
  ·
   obtain⟨o111,h,ho1_111,ho2_111⟩:=hi111.step he111 hs111
   replace h:=H82 hb111 h
   refine JLh (BL true) (Hm G G G) G (G9 (hK112 _ _ (G5 (fun K113 hK113=>Hf4 G (Gq (hK113 _ _ (Gn (G5 fun K114 hK114=>G3 (JLh (.tup [.agg [G1 x111.1.Load,G1 x111.1.Discharge],.agg (G2.cs x111.2)]) (Hf9 (kv:=G6.kv) (av:=G2.av) (m:=s85) (q:=q111) (seen:=i111) (e:=x111) G G G G he111) G (JLh (.agg (G2.cs x111.2)) (Hm G G G) G (JLh (.ptr 1022 0) (Jn 1022 4 R9 G G) G (Jb (u:=.junk) (J4 (u:=.agg (G2.cs x111.2)) (ds:=[G1 x111.2.G6.Load,G1 x111.2.G6.Discharge,G1 x111.2.Whole,G1 x111.2.Half]) G1f G G G G G G G G) (G9 (hK114 _ _ ?_))))))))))))))
   refine Gz [(8,.vec 1021 s111.length 4 s111.length),(10,Ee x111.2),(47,.it 1024)] [(1017,.vec 81 4 (([]:List G2).length) (([]:List G2).map G2.av)),(1023,MP 183 G6.kv G2.av s85),(1021,.vec 81 4 s111.length (s111.map G2.av)),(1024,.iter 1023 (Hh.size s85) (i111++[q111]))] 1022 rfl rfl rfl ⟨⟨_,rfl,.vec⟩,⟨_,rfl,.map⟩,⟨_,rfl,.vec⟩,⟨_,rfl,.iter rfl⟩,ø⟩ rfl (by exact⟨.conv (.same rfl),.ptr,.conv (.same rfl),ø⟩) (G3 (JLh (.vec 1021 s111.length 4 s111.length) (G4 G G) G (JLh (.agg (G2.cs x111.2)) (Gi R0 G G G) G (JLh (E3 [x111.2]) (Hs (xs:=[.agg (G2.cs x111.2)]) G ⟨G,G,ø⟩ H8 R9 G G G G) G ?_))))
   obtain⟨ha115,h⟩:=Hr h
   refine JLh (.vec 1021 ((s111++[x111.2]).length) 4 ((s111++[x111.2]).length)) (Jac (f:=G2.av) (xs:=s111) (ys:=[x111.2]) (ver:=s111.length) (ver1:=(s111++[x111.2]).length) rfl rfl rfl rfl H8 G94 ha115 (fun _=>rfl) (.inl rfl) (by simp)) G (JLh (.vec 1021 ((s111++[x111.2]).length) 4 ((s111++[x111.2]).length)) (G8 G G) G (G9 (e111 _ _ (i111++[q111]) (s111++[x111.2]) (ho2_111 _ (Option.some.inj h).symm) (Hb1 (List.getElem?_eq_some_iff.1 he111).1 hs111) ⟨⟨.same G,.same G,ø⟩,⟨⟨_,G,.vec⟩,⟨_,G,.map⟩,⟨_,G,.vec⟩,⟨_,G,.iter G⟩,ø⟩,G⟩)))
  ·
   obtain⟨p_,h,hp⟩:=hi111.done ha111
   replace h:=app1 hkx111 h
   refine JLh (BL false) (Hm G G G) G (G9 (hK112 _ _ (G5 (fun K116 hK116=>Hae G (Hc (hK101 _ _ (G5 fun K117 hK117=>G3 (JLh (.vec 1021 s111.length 4 s111.length) (G4 G G) G ?_))))))))
   obtain⟨r118,hr118,h⟩:=Gf h
   refine JLh (.tup []) (A_sortM (f:=G2.av) (cmp:=(fun z0 z1=>Z4 z0 z1)) (xs:=s111) (r:=r118) G2.vs G J37 Hdd (fun _=>G) (fun _=>G) (fun _=>cells1 G) J34 J33 G G G G G hr118 (fun z0 z1 q hq=>H19 z0 z1 q hq) G) G (G9 (hK117 _ _ (G5 fun K119 hK119=>G3 (JLh (.vec 1021 s111.length 4 s111.length) (G4 G G) G (JLh (.vec 1021 s111.length 4 s111.length) (G8 G G) G (G9 (hK119 _ _ (J64 2 G G (fun hn_=>Gx (⟨[.vec 1021 s111.length 4 s111.length],[(1021,.vec 81 4 s111.length (r118.map G2.av))],⟨⟨_,G,.vec⟩,ø⟩,G,⟨⟨_,G,.conv (.same G)⟩,ø⟩,s111.length,r118,Eq.mpr (Option.some.inj h) hp,congrArg (fun n_:Nat=>(.vec 1021 s111.length 4 n_:AV)) (hn_.trans (List.length_map _)),G⟩))))))))))
theorem Hf0 (S_:(List H4)→Option (List G2)) (hS_:∀ boxes r,S_ boxes=some r→∃ p:Prop,G04 boxes (fun r_=>r_=r)=some p∧p) (boxes:List H4) (r:(List G2)) (h:S_ boxes=some r):Za Tryz.prog 37 [E2 boxes] [] (fun av L'=>∃ p:Nat,av=.vec 1021 p 4 r.length∧L'=[(1021,.vec 81 4 p (r.map G2.av))]):=by
 obtain⟨p,h1,h2⟩:=hS_ boxes r h
 exact(Hf1 boxes _ p h1 h2).mono (fun av L hh=>by obtain⟨q,r_,rfl,ha,hb⟩:=hh; exact⟨q,ha,hb⟩)
end
end Go.Proofs.YtfkilljboodoaaaGreat
