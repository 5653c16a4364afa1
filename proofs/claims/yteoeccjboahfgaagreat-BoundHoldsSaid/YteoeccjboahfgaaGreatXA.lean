/-
 Models of functions of the program,and that they return what the models say.
-/
import Derived.Test.YteoeccjboahfgaaGreatSortLay
import Derived.Test.YteoeccjboahfgaaGreatLent
set_option maxRecDepth 100000
set_option linter.unusedVariables false
set_option linter.unusedSimpArgs false
namespace Go.Proofs.YteoeccjboahfgaaGreat
open Go.RowKit
noncomputable section
structure Hj where
 n:Int
 low:Int
 high:Int
 deriving DecidableEq,Inhabited
def Hj.cs (x:Hj):List AV:=[G1 x.n,G1 x.low,G1 x.high]
def Hj.av (x:Hj):AV:=.agg x.cs
structure G9 where
 Bay:Int
 Row:Int
 Deck:Bool
 Tiers:Int
 Height:Int
 Kilos20:Int
 Kilos40:Int
 Lash:Int
 Plugs:List Int
 X:Int
 Y:Int
 Z:Int
 deriving DecidableEq,Inhabited
def G9.cs (x:G9):List AV:=[G1 x.Bay,G1 x.Row,BL x.Deck,G1 x.Tiers,G1 x.Height,G1 x.Kilos20,G1 x.Kilos40,G1 x.Lash,E1 x.Plugs,G1 x.X,G1 x.Y,G1 x.Z]
def G9.av (x:G9):AV:=.agg x.cs
abbrev Ej (x:G9):AV:=.dptr (G9.cs x)
abbrev E5:=LS 12 G9.av
structure Ge where
 Bay:Int
 Rows:List Int
 deriving DecidableEq,Inhabited
def Ge.cs (x:Ge):List AV:=[G1 x.Bay,E1 x.Rows]
def Ge.av (x:Ge):AV:=.agg x.cs
abbrev Ea:=LS 2 Ge.av
structure Light where
 Kilos:Int
 X:Int
 Y:Int
 Z:Int
 deriving DecidableEq,Inhabited
def Light.cs (x:Light):List AV:=[G1 x.Kilos,G1 x.X,G1 x.Y,G1 x.Z]
def Light.av (x:Light):AV:=.agg x.cs
structure Row where
 Draught:Int
 Kilos:Int
 Buoy:Int
 Metacentre:Int
 Turn:Int
 deriving DecidableEq,Inhabited
def Row.cs (x:Row):List AV:=[G1 x.Draught,G1 x.Kilos,G1 x.Buoy,G1 x.Metacentre,G1 x.Turn]
def Row.av (x:Row):AV:=.agg x.cs
abbrev E7:=LS 5 Row.av
structure Frame where
 X:Int
 Light:Int
 Share:Int
 Shear:Int
 Bend:Int
 deriving DecidableEq,Inhabited
def Frame.cs (x:Frame):List AV:=[G1 x.X,G1 x.Light,G1 x.Share,G1 x.Shear,G1 x.Bend]
def Frame.av (x:Frame):AV:=.agg x.cs
abbrev E8:=LS 5 Frame.av
structure Gv where
 Kilos:Int
 X:Int
 Y:Int
 Z:Int
 Surface:Int
 Steps:List Int
 deriving DecidableEq,Inhabited
def Gv.cs (x:Gv):List AV:=[G1 x.Kilos,G1 x.X,G1 x.Y,G1 x.Z,G1 x.Surface,E1 x.Steps]
def Gv.av (x:Gv):AV:=.agg x.cs
abbrev E9:=LS 6 Gv.av
structure G4 where
 Tolerance:Int
 Trim:Int
 List_:Int
 Stability:Int
 deriving DecidableEq,Inhabited
def G4.cs (x:G4):List AV:=[G1 x.Tolerance,G1 x.Trim,G1 x.List_,G1 x.Stability]
def G4.av (x:G4):AV:=.agg x.cs
structure Hc where
 Columns:List G9
 Covers:List Ge
 Light:Light
 Rows:List Row
 Frames:List Frame
 Tanks:List Gv
 G4:G4
 deriving DecidableEq,Inhabited
def Hc.cs (x:Hc):List AV:=[E5 x.Columns,Ea x.Covers,G1 x.Light.Kilos,G1 x.Light.X,G1 x.Light.Y,G1 x.Light.Z,E7 x.Rows,E8 x.Frames,E9 x.Tanks,G1 x.G4.Tolerance,G1 x.G4.Trim,G1 x.G4.List_,G1 x.G4.Stability]
def Hc.av (x:Hc):AV:=.agg x.cs
abbrev Ee (x:Hc):AV:=.dptr (Hc.cs x)
structure H8 where
 e0:Int
 e1:Int
 e2:Int
 deriving DecidableEq,Inhabited
def H8.cs (x:H8):List AV:=[G1 x.e0,G1 x.e1,G1 x.e2]
def H8.av (x:H8):AV:=.agg x.cs
def H8.ks (x:H8):List Value:=[.int .i64 x.e0,.int .i64 x.e1,.int .i64 x.e2]
def H8.kv (x:H8):Value:=.agg x.ks.toArray
structure Slot where
 G9:Int
 Tier:Int
 Half:Int
 deriving DecidableEq,Inhabited
def Slot.cs (x:Slot):List AV:=[G1 x.G9,G1 x.Tier,U8 x.Half]
def Slot.av (x:Slot):AV:=.agg x.cs
abbrev Ei (x:Slot):AV:=.dptr (Slot.cs x)
abbrev E6:=LS 3 Slot.av
structure G7 where
 Gr:Int
 Slot:Slot
 deriving DecidableEq,Inhabited
def G7.cs (x:G7):List AV:=[G1 x.Gr,G1 x.Slot.G9,G1 x.Slot.Tier,U8 x.Slot.Half]
def G7.av (x:G7):AV:=.agg x.cs
abbrev Ef (x:G7):AV:=.dptr (G7.cs x)
abbrev E0:=LS 4 G7.av
structure G6a where
 States:List (List G7)
 Water:List (List Int)
 deriving DecidableEq,Inhabited
def G6a.cs (x:G6a):List AV:=[LS 1 (E0) x.States,LS 1 (E1) x.Water]
def G6a.av (x:G6a):AV:=.agg x.cs
structure Ga where
 Load:Int
 Discharge:Int
 deriving DecidableEq,Inhabited
def Ga.cs (x:Ga):List AV:=[G1 x.Load,G1 x.Discharge]
def Ga.av (x:Ga):AV:=.agg x.cs
abbrev E3:=LS 2 Ga.av
structure G2 where
 Ga:Ga
 Whole:Int
 Half:Int
 deriving DecidableEq,Inhabited
def G2.cs (x:G2):List AV:=[G1 x.Ga.Load,G1 x.Ga.Discharge,G1 x.Whole,G1 x.Half]
def G2.av (x:G2):AV:=.agg x.cs
abbrev Eg (x:G2):AV:=.dptr (G2.cs x)
abbrev E4:=LS 4 G2.av
structure Gr where
 ID:Int
 Number:ByteArray
 Size:Int
 High:Bool
 Kilos:Int
 Load:Int
 Discharge:Int
 Class:Int
 Reefer:Bool
 deriving DecidableEq,Inhabited
def Gr.cs (x:Gr):List AV:=[G1 x.ID,ST x.Number,U8 x.Size,BL x.High,G1 x.Kilos,G1 x.Load,G1 x.Discharge,U8 x.Class,BL x.Reefer]
def Gr.av (x:Gr):AV:=.agg x.cs
abbrev Eh (x:Gr):AV:=.dptr (Gr.cs x)
abbrev E2:=LS 9 Gr.av
def Ga.ks (x:Ga):List Value:=[.int .i64 x.Load,.int .i64 x.Discharge]
def Ga.kv (x:Ga):Value:=.agg x.ks.toArray
def G2.vs (x:G2):List Value:=[.int .i64 x.Ga.Load,.int .i64 x.Ga.Discharge,.int .i64 x.Whole,.int .i64 x.Half]
namespace XAF
theorem tq_158 (a b:H8):Hbb Tryz.prog 4 158 [.int .i64 a.e0,.int .i64 a.e1,.int .i64 a.e2] [.int .i64 b.e0,.int .i64 b.e1,.int .i64 b.e2]=some (decide (a=b)):=by
 refine(show _=some ((a.e0==b.e0)&&((a.e1==b.e1)&&((a.e2==b.e2)&&true))) by kernel_rfl).trans (congrArg some ?_)
 rw [Bool.eq_iff_iff]
 simp only [Bool.and_eq_true,beq_iff_eq,decide_eq_true_eq,Bool.and_true]
 constructor
 ·intro h; obtain⟨_,_,_⟩:=a; obtain⟨_,_,_⟩:=b; simp_all
 ·intro h; subst h; simp
theorem tq_84 (a b:Ga):Hbb Tryz.prog 4 84 [.int .i64 a.Load,.int .i64 a.Discharge] [.int .i64 b.Load,.int .i64 b.Discharge]=some (decide (a=b)):=by
 refine(show _=some ((a.Load==b.Load)&&((a.Discharge==b.Discharge)&&true)) by kernel_rfl).trans (congrArg some ?_)
 rw [Bool.eq_iff_iff]
 simp only [Bool.and_eq_true,beq_iff_eq,decide_eq_true_eq,Bool.and_true]
 constructor
 ·intro h; obtain⟨_,_⟩:=a; obtain⟨_,_⟩:=b; simp_all
 ·intro h; subst h; simp
theorem Q1c:Gab Tryz.prog 183 3=true:=by kernel_rfl
theorem G6f:Gab Tryz.prog 59 12=true:=by kernel_rfl
theorem H7f:Gab Tryz.prog 63 2=true:=by kernel_rfl
theorem Z1:Gab Tryz.prog 68 9=true:=by kernel_rfl
theorem Jc:Gab Tryz.prog 84 2=true:=by kernel_rfl
theorem Qn:Gab Tryz.prog 86 4=true:=by kernel_rfl
theorem J6c:arrB Tryz.prog 158 3 1=true:=by kernel_rfl
theorem J1b:Ho Tryz.prog 107=true:=by kernel_rfl
theorem J68:Ho Tryz.prog 43=true:=by kernel_rfl
theorem J67:Ho Tryz.prog 44=true:=by kernel_rfl
theorem Q06:Ho Tryz.prog 45=true:=by kernel_rfl
theorem Jef:Ho Tryz.prog 76=true:=by kernel_rfl
theorem Jee:Ho Tryz.prog 79=true:=by kernel_rfl
theorem J60:Ho Tryz.prog 80=true:=by kernel_rfl
theorem J5e:Ho Tryz.prog 86=true:=by kernel_rfl
theorem J5b:Ho Tryz.prog 96=true:=by kernel_rfl
theorem G66:Ym Tryz.prog 86 4 32=true:=by kernel_rfl
theorem H57:Jk Tryz.prog 183 0 0=true:=by kernel_rfl
theorem J55:Jk Tryz.prog 183 1 1=true:=by kernel_rfl
theorem J54:Jk Tryz.prog 183 2 2=true:=by kernel_rfl
theorem J0:Jk Tryz.prog 36 0 0=true:=by kernel_rfl
theorem G0e:Jk Tryz.prog 36 1 1=true:=by kernel_rfl
theorem G50:Jk Tryz.prog 42 0 0=true:=by kernel_rfl
theorem G35:Jk Tryz.prog 59 0 0=true:=by kernel_rfl
theorem G34:Jk Tryz.prog 59 1 1=true:=by kernel_rfl
theorem H56:Jk Tryz.prog 59 10 10=true:=by kernel_rfl
theorem Gd7:Jk Tryz.prog 59 11 11=true:=by kernel_rfl
theorem G33:Jk Tryz.prog 59 2 2=true:=by kernel_rfl
theorem G32:Jk Tryz.prog 59 3 3=true:=by kernel_rfl
theorem Ha0:Jk Tryz.prog 59 4 4=true:=by kernel_rfl
theorem Jb3:Jk Tryz.prog 59 5 5=true:=by kernel_rfl
theorem Jb2:Jk Tryz.prog 59 6 6=true:=by kernel_rfl
theorem Jb1:Jk Tryz.prog 59 7 7=true:=by kernel_rfl
theorem H9f:Jk Tryz.prog 59 8 8=true:=by kernel_rfl
theorem H9e:Jk Tryz.prog 59 9 9=true:=by kernel_rfl
theorem Ga2:Jk Tryz.prog 63 0 0=true:=by kernel_rfl
theorem Ga1:Jk Tryz.prog 63 1 1=true:=by kernel_rfl
theorem G0d:Jk Tryz.prog 68 2 2=true:=by kernel_rfl
theorem Yq:Jk Tryz.prog 68 5 5=true:=by kernel_rfl
theorem Zg:Jk Tryz.prog 68 6 6=true:=by kernel_rfl
theorem Rk:Jk Tryz.prog 84 0 0=true:=by kernel_rfl
theorem Rj:Jk Tryz.prog 84 1 1=true:=by kernel_rfl
theorem Ja:Jk Tryz.prog 86 0 0=true:=by kernel_rfl
theorem Zf:Jk Tryz.prog 86 1 2=true:=by kernel_rfl
theorem Ze:Jk Tryz.prog 86 2 3=true:=by kernel_rfl
theorem G94:G54 Tryz.prog 121 84 86=true:=by kernel_rfl
theorem G65:G54 Tryz.prog 157 158 3=true:=by kernel_rfl
theorem Jr:Tryz.prog.follows .mixedOrders=true:=by kernel_rfl
theorem H10:placesOf Tryz.prog 103=some [(0,1),(1,1),(2,1)]:=by kernel_rfl
theorem Ri:placesOf Tryz.prog 183=some [(0,1),(1,1),(2,1)]:=by kernel_rfl
theorem Gc7:placesOf Tryz.prog 84=some [(0,1),(1,1)]:=by kernel_rfl
theorem Y3:Rc Tryz.prog 101=true:=by kernel_rfl
theorem J8:Rc Tryz.prog 26=true:=by kernel_rfl
theorem G7a:Rc Tryz.prog 27=true:=by kernel_rfl
theorem Gc:Rc Tryz.prog 3=true:=by kernel_rfl
theorem G05:Rc Tryz.prog 39=true:=by kernel_rfl
theorem Ru:Rc Tryz.prog 4=true:=by kernel_rfl
theorem J7:Rc Tryz.prog 5=true:=by kernel_rfl
theorem Qy:Rc Tryz.prog 57=true:=by kernel_rfl
theorem Jcc:R7 Tryz.prog 183 3=true:=by kernel_rfl
theorem Qv:R7 Tryz.prog 3 1=true:=by kernel_rfl
theorem Gd6:R7 Tryz.prog 59 12=true:=by kernel_rfl
theorem J50:R7 Tryz.prog 63 2=true:=by kernel_rfl
theorem Z4:R7 Tryz.prog 68 9=true:=by kernel_rfl
theorem G64:R7 Tryz.prog 84 2=true:=by kernel_rfl
theorem Zm:R7 Tryz.prog 86 4=true:=by kernel_rfl
theorem Gc5:sliceB Tryz.prog 181 183 3=true:=by kernel_rfl
theorem G04:sliceB Tryz.prog 25 5 1=true:=by kernel_rfl
theorem J3:sliceB Tryz.prog 26 59 12=true:=by kernel_rfl
theorem G03:sliceB Tryz.prog 27 63 2=true:=by kernel_rfl
theorem Jg:sliceB Tryz.prog 38 68 9=true:=by kernel_rfl
theorem Qa:sliceB Tryz.prog 39 101 1=true:=by kernel_rfl
theorem Gt:sliceB Tryz.prog 57 3 1=true:=by kernel_rfl
theorem H7:sliceB Tryz.prog 74 86 4=true:=by kernel_rfl
theorem Gf6:(Tryz.prog.info? 103).bind (fun i=>i.zero.map Value.cells)=some (List.toArray [.int .i64 0,.int .i64 0,.int .u8 0]):=by kernel_rfl
theorem J14:(Tryz.prog.info? 158).bind (fun i=>i.zero.map Value.cells)=some (List.toArray [.int .i64 0,.int .i64 0,.int .i64 0]):=by kernel_rfl
theorem Yt:(Tryz.prog.info? 183).bind (fun i=>i.zero.map Value.cells)=some (List.toArray [.int .i64 0,.int .i64 0,.int .i64 0]):=by kernel_rfl
theorem H2f:(Tryz.prog.info? 84).bind (fun i=>i.zero.map Value.cells)=some (List.toArray [.int .i64 0,.int .i64 0]):=by kernel_rfl
theorem H2e:R1 Tryz.prog 183 3=true:=by kernel_rfl
theorem Yn:R1 Tryz.prog 3 1=true:=by kernel_rfl
theorem J4c:R1 Tryz.prog 5 1=true:=by kernel_rfl
theorem G21:R1 Tryz.prog 59 12=true:=by kernel_rfl
theorem Gf5:R1 Tryz.prog 63 2=true:=by kernel_rfl
theorem Rg:R1 Tryz.prog 68 9=true:=by kernel_rfl
theorem Ys:R1 Tryz.prog 84 2=true:=by kernel_rfl
theorem Qi:R1 Tryz.prog 86 4=true:=by kernel_rfl
theorem G9f:(Tryz.prog.info? 3).bind (·.zero)=some (.int .i64 0):=by kernel_rfl
theorem Jc4:(Tryz.prog.info? 86).bind (·.zero)=some (.agg #[.int .i64 0,.int .i64 0,.int .i64 0,.int .i64 0]):=by kernel_rfl
theorem Hf1:Gd0 Tryz.prog 158 H8.kv:=Gd0.of_eq H8.ks (by kernel_rfl) (fun a b h=>by simp only [H8.ks,List.cons.injEq,Value.int.injEq,Value.bool.injEq,Value.string.injEq,true_and,and_true] at h; obtain⟨_,_,_⟩:=a; obtain⟨_,_,_⟩:=b; simp_all) 4 (by decide) (fun a b=>tq_158 a b) (fun a=>by kernel_rfl) (fun a=>by simp [Instr.sameBits,H8.ks])
theorem J4b:Gd0 Tryz.prog 84 Ga.kv:=Gd0.of_eq Ga.ks (by kernel_rfl) (fun a b h=>by simp only [Ga.ks,List.cons.injEq,Value.int.injEq,Value.bool.injEq,Value.string.injEq,true_and,and_true] at h; obtain⟨_,_⟩:=a; obtain⟨_,_⟩:=b; simp_all) 4 (by decide) (fun a b=>tq_84 a b) (fun a=>by kernel_rfl) (fun a=>by simp [Instr.sameBits,Ga.ks])
end XAF
open XAF

def G1a (l:List Hj):Option Bool:=
 each (fun y18 i18 (s18:Unit) nx18=>
  bif ((decide (y18.n < y18.low))||(decide (y18.high < y18.n))) then
  (some false)
  else
  (nx18 ()))
 (fun(s18:Unit)=>
  some true) l 0 ()
theorem H24 (l:List Hj) (r:Bool) (h:G1a l=some r):Pure Tryz.prog 96 [LS 3 Hj.av l] (·=BL r):=by
 unfold G1a at h
 refine H4 [.tmp 2] Tryz.func96 O O (G5 fun K1 hK1=>G3 (JLh (BL false) (Gb O O) O (G8 (hK1 _ _ (G5 (fun K2 hK2=>G5 fun K3 hK3=>G3 (JLh (LS 3 Hj.av l) (G6 O O) O (Hp (f:=Hj.av) (xs:=l) Gc5 O O (fun hm6=>?_) O O O))))))))
 refine JLh (G1 0) (G6 O O) O (G8 (hK3 _ _ (Gi ?_)))
 obtain⟨b18,kx18,hb18,hkx18,h⟩:=Hy h
 refine Ha (fun i18 (s18:Unit)=>each b18 kx18 (List.drop i18 l) i18 s18=some r) (fun i18 s18=>[(5,LS 3 Hj.av l),(6,Ek l.length),(7,Ek i18)]) (fun i18 s18=>[]) (fun i18=>l.length - i18) 0 () h ⟨⟨.same O,.same O,.same O,G⟩,G,O⟩ ?_
 clear h
 intro i18 s18 hi18 K18 e18
 refine G5 fun K19 hK19=>G3 (JLh (BL (decide ((i18:Int) < (l.length:Int)))) (J2 O O O) O (G8 (hK19 _ _ (G5 (fun K20 hK20=>Gn O (fun hb=>?_) (fun hb=>?_))))))
 ·
  have hk18:=Jd hb
  obtain⟨y18,nx18,hy18,hn18,h⟩:=Hr hi18 hk18
  replace h:=Rq hb18 h
  refine Gp (hK20 _ _ (G5 (fun K21 hK21=>Gi (G5 fun K22 hK22=>G3 (JLh (.dptr [G1 y18.n,G1 y18.low,G1 y18.high]) (Gz (f:=Hj.av) (xs:=l) (y:=y18) O O O Gc5 hy18 O) O (JLh (.agg [G1 y18.n,G1 y18.low,G1 y18.high]) (Gh Q1c O O O) O (JLh (.ptr 1180 0) (Hh 1180 3 H2e O O) O (Hg (u:=.junk) (H5 (u:=.agg [G1 y18.n,G1 y18.low,G1 y18.high]) (ds:=[G1 y18.n,G1 y18.low,G1 y18.high]) Jcc O O O O O O O O) (G8 (hK22 _ _ (Gq [(4,.dptr [G1 y18.n,G1 y18.low,G1 y18.high]),(5,LS 3 Hj.av l),(6,Ek l.length),(7,Ek i18)] [] 1180 rfl rfl rfl G rfl (by repeat' (first | exact .ptr | constructor)) ?_)))))))))))
  refine G5 fun K23 hK23=>G3 (JLh (.dptr [G1 y18.n,G1 y18.low,G1 y18.high]) (Gd H57 O O O) O (JLh (G1 y18.n) (Gk Gc O O O) O (JLh (.dptr [G1 y18.low,G1 y18.high]) (Gd J55 O O O) O (JLh (G1 y18.low) (Gk Gc O O O) O (JLh (BL (decide (y18.n < y18.low))) (J2 O O O) O (JLh (BL (decide (y18.n < y18.low))) (G6 O O) O (Gg (u:=.dptr [G1 y18.n,G1 y18.low,G1 y18.high]) [] O O O .scf G (fun hc=>Gd H57 O O O) ?_)))))))
  refine Gg (u:=G1 y18.n) [(17,.dptr [G1 y18.n,G1 y18.low,G1 y18.high])] O O O .scf ⟨.all id,G⟩ (fun hc=>Gk Gc O O O) ?_
  refine Gg (u:=.dptr [G1 y18.high]) [] O O O .scf G (fun hc=>Gd J54 O O O) ?_
  refine Gg (u:=G1 y18.high) [(19,.dptr [G1 y18.high])] O O O .scf ⟨.all id,G⟩ (fun hc=>Gk Gc O O O) ?_
  refine Gg (u:=BL (decide (y18.high < y18.n))) [(18,G1 y18.n),(20,G1 y18.high)] O O O .scf ⟨.all id,.all id,G⟩ (fun hc=>Zj O O O) ?_
  refine JLh (BL ((decide (y18.n < y18.low))||(decide (y18.high < y18.n)))) (G2a O O O O) O (G8 (hK23 _ _ (Gn O (fun hb=>?_) (fun hb=>?_))))
  ·
   replace h:=H1 hb h
   refine G5 fun K24 hK24=>G3 (JLh (BL false) (Gb O O) O (G8 (hK24 _ _ (Gx (⟨[BL false],[],G,O,⟨⟨_,O,.conv (.same O)⟩,G⟩,O,congrArg (fun r:Bool=>(BL r:AV)) (Option.some.inj h)⟩)))))
  ·
   replace h:=Hv hb h
   refine Gp (hK21 _ _ (G3 (JLh (G1 ((i18+1:Nat):Int)) (Ht (Hn hk18 hm6) O O O) O (JLh (G1 ((i18+1:Nat):Int)) (G6 O O) O (G8 (e18 _ _ (i18+1) () (app1 hn18 h) (by omega) ⟨⟨.same rfl,.same rfl,.same rfl,G⟩,G,rfl⟩))))))
 ·
  have h:=app1 hkx18 (Hs hi18 (H9 hb))
  refine Hi (hK2 _ _ (G5 fun K25 hK25=>G3 (JLh (BL true) (Gb O O) O (G8 (hK25 _ _ (Gx (⟨[BL true],[],G,O,⟨⟨_,O,.conv (.same O)⟩,G⟩,O,congrArg (fun r:Bool=>(BL r:AV)) (Option.some.inj h)⟩)))))))

def G29 (c:G9):Option Bool:=
 each (fun y27 i27 (s27:Unit) nx27=>
  Rn (c.Tiers - 1) fun v33=>
  bnd (G1a [(Hj.mk y27 0 v33)]) fun r34=>
  bnd (bif ((!(!r34))&&(decide (0 < (i27:Int)))) then Rn ((i27:Int) - 1) some else some 0) fun v35=>
  bnd (bif ((!(!r34))&&(decide (0 < (i27:Int)))) then Rm c.Plugs v35 some else some default) fun y36=>
  bif ((!r34)||((decide (0 < (i27:Int)))&&(decide (y27≤y36)))) then
  (some false)
  else
  (nx27 ()))
 (fun(s27:Unit)=>
  bnd (G1a [(Hj.mk c.Bay 0 39),(Hj.mk c.Row 0 30),(Hj.mk c.Tiers 1 10),(Hj.mk c.Height 0 40000),(Hj.mk c.Kilos20 0 500000000),(Hj.mk c.Kilos40 0 500000000),(Hj.mk c.Lash 0 1000000000000),(Hj.mk c.X (-500000) 500000),(Hj.mk c.Y (-500000) 500000),(Hj.mk c.Z (-500000) 500000)]) fun r39=>
  some r39) c.Plugs 0 ()
theorem J98 (c:G9) (r:Bool) (h:G29 c=some r):Pure Tryz.prog 76 [.agg (G9.cs c)] (·=BL r):=by
 unfold G29 at h
 refine H4 [.tmp 2] Tryz.func76 O O (G5 fun K1 hK1=>G3 (JLh (.ptr 1169 0) (Jw (u:=.agg (G9.cs c)) (cs:=(G9.cs c)) 1169 O O O O O) O (JLh (BL false) (Gb O O) O (G8 (hK1 _ _ (Gq [(1,Ej c)] [] 1169 rfl rfl rfl G rfl (by exact⟨.ptr,G⟩) (G5 fun K2 hK2=>G3 (JLh (.fn 96 []) (Gb O O) O (G8 (hK2 _ _ (G5 (fun K3 hK3=>?_))))))))))))
 refine G5 fun K4 hK4=>G3 (JLh (.dptr [E1 c.Plugs,G1 c.X,G1 c.Y,G1 c.Z]) (Gd H9f O O O) O (JLh (E1 c.Plugs) (Gk Qy O O O) O (Hp (f:=G1) (xs:=c.Plugs) Gt O O (fun hm8=>?_) O O O)))
 refine JLh (G1 0) (G6 O O) O (G8 (hK4 _ _ (Gi ?_)))
 obtain⟨b27,kx27,hb27,hkx27,h⟩:=Hy h
 refine Ha (fun i27 (s27:Unit)=>each b27 kx27 (List.drop i27 c.Plugs) i27 s27=some r) (fun i27 s27=>[(1,Ej c),(3,.fn 96 []),(7,E1 c.Plugs),(8,Ek c.Plugs.length),(9,Ek i27)]) (fun i27 s27=>[]) (fun i27=>c.Plugs.length - i27) 0 () h ⟨(by repeat' constructor),G,rfl⟩ ?_
 clear h
 intro i27 s27 hi27 K27 e27
 refine G5 fun K28 hK28=>G3 (JLh (BL (decide ((i27:Int) < (c.Plugs.length:Int)))) (J2 O O O) O (G8 (hK28 _ _ (G5 (fun K29 hK29=>Gn O (fun hb=>?_) (fun hb=>?_))))))
 ·
  have hk27:=Jd hb
  obtain⟨y27,nx27,hy27,hn27,h⟩:=Hr hi27 hk27
  replace h:=Rq hb27 h
  refine Gp (hK29 _ _ (G5 (fun K30 hK30=>Gi (G5 fun K31 hK31=>G3 (JLh (Ek i27) (G6 O O) O (JLh (.dptr [G1 y27]) (Gz (f:=G1) (xs:=c.Plugs) (y:=y27) O O O Gt hy27 O) O (JLh (G1 y27) (Gk Gc O O O) O (JLh (Ek i27) (Gb O O) O (JLh (G1 y27) (Gb O O) O (G8 (hK31 _ _ (G5 fun K32 hK32=>G3 (JLh (.fn 96 []) (G6 O O) O (JLh (G1 y27) (G6 O O) O (JLh (.dptr [G1 c.Tiers,G1 c.Height,G1 c.Kilos20,G1 c.Kilos40,G1 c.Lash,E1 c.Plugs,G1 c.X,G1 c.Y,G1 c.Z]) (Gd G32 O O O) O (JLh (G1 c.Tiers) (Gk Gc O O O) O ?_))))))))))))))))
  obtain⟨v33,hv33,h⟩:=Hb h
  refine JLh (G1 v33) (G18 hv33 O O O) O (JLh (.agg [G1 y27,G1 0,G1 v33]) (Ji (cs:=[G1 y27,G1 0,G1 v33]) [(0,1),(1,1),(2,1)] [G1 0,G1 0,G1 0] [.int .i64 0,.int .i64 0,.int .i64 0] Ri Yt ⟨.inl O,.inl O,.inl O,G⟩ O O) O (JLh (LS 3 Hj.av [(Hj.mk y27 0 v33)]) (Hf (xs:=[.agg [G1 y27,G1 0,G1 v33]]) O ⟨O,O,G⟩ Gc5 H2e O O O O) O ?_))
  obtain⟨r34,hr34,h⟩:=Gf h
  refine JLh (BL r34) (Yy (args:=[LS 3 Hj.av [(Hj.mk y27 0 v33)]]) (caps:=[]) O O (H24 [(Hj.mk y27 0 v33)] r34 hr34) J5b ⟨O,O,G⟩ O) O (JLh (BL (!r34)) (Zy (b:=r34) O O) O (JLh (BL (!r34)) (G6 O O) O (Gg (u:=Ek i27) [] O O O .scf G (fun hc=>G6 O O) ?_)))
  refine Gg (u:=BL (decide (0 < (i27:Int)))) [(24,Ek i27)] O O O .scf ⟨.all id,G⟩ (fun hc=>Zj O O O) ?_
  refine Gg (u:=BL (decide (0 < (i27:Int)))) [(25,BL (decide (0 < (i27:Int))))] O O O .scf ⟨.all id,G⟩ (fun hc=>G6 O O) ?_
  refine Gg (u:=G1 y27) [] O O O .optt G (fun hc=>G6 O O) ?_
  refine Gg (u:=.dptr [E1 c.Plugs,G1 c.X,G1 c.Y,G1 c.Z]) [] O O O .optt G (fun hc=>Gd H9f O O O) ?_
  refine Gg (u:=E1 c.Plugs) [(28,.dptr [E1 c.Plugs,G1 c.X,G1 c.Y,G1 c.Z])] O O O .optt ⟨.all id,G⟩ (fun hc=>Gk Qy O O O) ?_
  refine Gg (u:=Ek i27) [] O O O .optt G (fun hc=>G6 O O) ?_
  obtain⟨v35,hv35,h⟩:=Gf h
  refine Gg (u:=G1 v35) [(30,Ek i27)] O O O .optt ⟨.all id,G⟩ (fun hc=>G18 (H68 (H1 hc hv35)) O O O) ?_
  obtain⟨y36,hy36,h⟩:=Gf h
  refine Gg (u:=.dptr [G1 y36]) [(29,E1 c.Plugs),(31,G1 v35)] O O O .optt ⟨.all id,.all id,G⟩ (fun hc=>(match Yi (H1 hc hy36) with | ⟨_,hm_,hy_⟩=>Gz (f:=G1) (xs:=c.Plugs) (y:=y36) O O O Gt hy_ hm_)) ?_
  refine Gg (u:=G1 y36) [(32,.dptr [G1 y36])] O O O .optt ⟨.all id,G⟩ (fun hc=>Gk Gc O O O) ?_
  refine Gg (u:=BL (decide (y27≤y36))) [(27,G1 y27),(33,G1 y36)] O O O .optt ⟨.all id,.all id,G⟩ (fun hc=>Gc4 O O O) ?_
  refine Gg (u:=BL ((decide (0 < (i27:Int)))&&(decide (y27≤y36)))) [(26,BL (decide (0 < (i27:Int)))),(34,_)] O O O .scf ⟨.all id,.part,G⟩ (fun hc=>Qc O O O O) ?_
  refine JLh (BL ((!r34)||((decide (0 < (i27:Int)))&&(decide (y27≤y36))))) (G2a O O O O) O (G8 (hK32 _ _ (Gn O (fun hb=>?_) (fun hb=>?_))))
  ·
   replace h:=H1 hb h
   refine G5 fun K37 hK37=>G3 (JLh (BL false) (Gb O O) O (G8 (hK37 _ _ (Gx (⟨[BL false],[],G,O,⟨⟨_,O,.conv (.same O)⟩,G⟩,O,congrArg (fun r:Bool=>(BL r:AV)) (Option.some.inj h)⟩)))))
  ·
   replace h:=Hv hb h
   refine Gp (hK30 _ _ (G3 (JLh (G1 ((i27+1:Nat):Int)) (Ht (Hn hk27 hm8) O O O) O (JLh (G1 ((i27+1:Nat):Int)) (G6 O O) O (G8 (e27 _ _ (i27+1) () (app1 hn27 h) (by omega) ⟨(by repeat' constructor),G,rfl⟩))))))
 ·
  have h:=app1 hkx27 (Hs hi27 (H9 hb))
  refine Hi (hK3 _ _ ?_)
  refine G5 fun K38 hK38=>G3 (JLh (.fn 96 []) (G6 O O) O (JLh (Ej c) (Gd G35 O O O) O (JLh (G1 c.Bay) (Gk Gc O O O) O (JLh (.agg [G1 c.Bay,G1 0,G1 39]) (Ji (cs:=[G1 c.Bay,G1 0,G1 39]) [(0,1),(1,1),(2,1)] [G1 0,G1 0,G1 0] [.int .i64 0,.int .i64 0,.int .i64 0] Ri Yt ⟨.inl O,.inl O,.inl O,G⟩ O O) O (JLh (.dptr [G1 c.Row,BL c.Deck,G1 c.Tiers,G1 c.Height,G1 c.Kilos20,G1 c.Kilos40,G1 c.Lash,E1 c.Plugs,G1 c.X,G1 c.Y,G1 c.Z]) (Gd G34 O O O) O (JLh (G1 c.Row) (Gk Gc O O O) O (JLh (.agg [G1 c.Row,G1 0,G1 30]) (Ji (cs:=[G1 c.Row,G1 0,G1 30]) [(0,1),(1,1),(2,1)] [G1 0,G1 0,G1 0] [.int .i64 0,.int .i64 0,.int .i64 0] Ri Yt ⟨.inl O,.inl O,.inl O,G⟩ O O) O (JLh (.dptr [G1 c.Tiers,G1 c.Height,G1 c.Kilos20,G1 c.Kilos40,G1 c.Lash,E1 c.Plugs,G1 c.X,G1 c.Y,G1 c.Z]) (Gd G32 O O O) O (JLh (G1 c.Tiers) (Gk Gc O O O) O (JLh (.agg [G1 c.Tiers,G1 1,G1 10]) (Ji (cs:=[G1 c.Tiers,G1 1,G1 10]) [(0,1),(1,1),(2,1)] [G1 0,G1 0,G1 0] [.int .i64 0,.int .i64 0,.int .i64 0] Ri Yt ⟨.inl O,.inl O,.inl O,G⟩ O O) O (JLh (.dptr [G1 c.Height,G1 c.Kilos20,G1 c.Kilos40,G1 c.Lash,E1 c.Plugs,G1 c.X,G1 c.Y,G1 c.Z]) (Gd Ha0 O O O) O (JLh (G1 c.Height) (Gk Gc O O O) O (JLh (.agg [G1 c.Height,G1 0,G1 40000]) (Ji (cs:=[G1 c.Height,G1 0,G1 40000]) [(0,1),(1,1),(2,1)] [G1 0,G1 0,G1 0] [.int .i64 0,.int .i64 0,.int .i64 0] Ri Yt ⟨.inl O,.inl O,.inl O,G⟩ O O) O ?_)))))))))))))
  refine JLh (.dptr [G1 c.Kilos20,G1 c.Kilos40,G1 c.Lash,E1 c.Plugs,G1 c.X,G1 c.Y,G1 c.Z]) (Gd Jb3 O O O) O (JLh (G1 c.Kilos20) (Gk Gc O O O) O (JLh (.agg [G1 c.Kilos20,G1 0,G1 500000000]) (Ji (cs:=[G1 c.Kilos20,G1 0,G1 500000000]) [(0,1),(1,1),(2,1)] [G1 0,G1 0,G1 0] [.int .i64 0,.int .i64 0,.int .i64 0] Ri Yt ⟨.inl O,.inl O,.inl O,G⟩ O O) O (JLh (.dptr [G1 c.Kilos40,G1 c.Lash,E1 c.Plugs,G1 c.X,G1 c.Y,G1 c.Z]) (Gd Jb2 O O O) O (JLh (G1 c.Kilos40) (Gk Gc O O O) O (JLh (.agg [G1 c.Kilos40,G1 0,G1 500000000]) (Ji (cs:=[G1 c.Kilos40,G1 0,G1 500000000]) [(0,1),(1,1),(2,1)] [G1 0,G1 0,G1 0] [.int .i64 0,.int .i64 0,.int .i64 0] Ri Yt ⟨.inl O,.inl O,.inl O,G⟩ O O) O (JLh (.dptr [G1 c.Lash,E1 c.Plugs,G1 c.X,G1 c.Y,G1 c.Z]) (Gd Jb1 O O O) O (JLh (G1 c.Lash) (Gk Gc O O O) O (JLh (.agg [G1 c.Lash,G1 0,G1 1000000000000]) (Ji (cs:=[G1 c.Lash,G1 0,G1 1000000000000]) [(0,1),(1,1),(2,1)] [G1 0,G1 0,G1 0] [.int .i64 0,.int .i64 0,.int .i64 0] Ri Yt ⟨.inl O,.inl O,.inl O,G⟩ O O) O (JLh (.dptr [G1 c.X,G1 c.Y,G1 c.Z]) (Gd H9e O O O) O (JLh (G1 c.X) (Gk Gc O O O) O (JLh (.agg [G1 c.X,G1 (-500000),G1 500000]) (Ji (cs:=[G1 c.X,G1 (-500000),G1 500000]) [(0,1),(1,1),(2,1)] [G1 0,G1 0,G1 0] [.int .i64 0,.int .i64 0,.int .i64 0] Ri Yt ⟨.inl O,.inl O,.inl O,G⟩ O O) O (JLh (.dptr [G1 c.Y,G1 c.Z]) (Gd H56 O O O) O (JLh (G1 c.Y) (Gk Gc O O O) O ?_)))))))))))))
  refine JLh (.agg [G1 c.Y,G1 (-500000),G1 500000]) (Ji (cs:=[G1 c.Y,G1 (-500000),G1 500000]) [(0,1),(1,1),(2,1)] [G1 0,G1 0,G1 0] [.int .i64 0,.int .i64 0,.int .i64 0] Ri Yt ⟨.inl O,.inl O,.inl O,G⟩ O O) O (JLh (.dptr [G1 c.Z]) (Gd Gd7 O O O) O (JLh (G1 c.Z) (Gk Gc O O O) O (JLh (.agg [G1 c.Z,G1 (-500000),G1 500000]) (Ji (cs:=[G1 c.Z,G1 (-500000),G1 500000]) [(0,1),(1,1),(2,1)] [G1 0,G1 0,G1 0] [.int .i64 0,.int .i64 0,.int .i64 0] Ri Yt ⟨.inl O,.inl O,.inl O,G⟩ O O) O (JLh (LS 3 Hj.av [(Hj.mk c.Bay 0 39),(Hj.mk c.Row 0 30),(Hj.mk c.Tiers 1 10),(Hj.mk c.Height 0 40000),(Hj.mk c.Kilos20 0 500000000),(Hj.mk c.Kilos40 0 500000000),(Hj.mk c.Lash 0 1000000000000),(Hj.mk c.X (-500000) 500000),(Hj.mk c.Y (-500000) 500000),(Hj.mk c.Z (-500000) 500000)]) (Hf (xs:=[.agg [G1 c.Bay,G1 0,G1 39],.agg [G1 c.Row,G1 0,G1 30],.agg [G1 c.Tiers,G1 1,G1 10],.agg [G1 c.Height,G1 0,G1 40000],.agg [G1 c.Kilos20,G1 0,G1 500000000],.agg [G1 c.Kilos40,G1 0,G1 500000000],.agg [G1 c.Lash,G1 0,G1 1000000000000],.agg [G1 c.X,G1 (-500000),G1 500000],.agg [G1 c.Y,G1 (-500000),G1 500000],.agg [G1 c.Z,G1 (-500000),G1 500000]]) O ⟨O,O,O,O,O,O,O,O,O,O,O,O,O,O,O,O,O,O,O,O,G⟩ Gc5 H2e O O O O) O ?_))))
  obtain⟨r39,hr39,h⟩:=Gf h
  refine JLh (BL r39) (Yy (args:=[LS 3 Hj.av [(Hj.mk c.Bay 0 39),(Hj.mk c.Row 0 30),(Hj.mk c.Tiers 1 10),(Hj.mk c.Height 0 40000),(Hj.mk c.Kilos20 0 500000000),(Hj.mk c.Kilos40 0 500000000),(Hj.mk c.Lash 0 1000000000000),(Hj.mk c.X (-500000) 500000),(Hj.mk c.Y (-500000) 500000),(Hj.mk c.Z (-500000) 500000)]]) (caps:=[]) O O (H24 [(Hj.mk c.Bay 0 39),(Hj.mk c.Row 0 30),(Hj.mk c.Tiers 1 10),(Hj.mk c.Height 0 40000),(Hj.mk c.Kilos20 0 500000000),(Hj.mk c.Kilos40 0 500000000),(Hj.mk c.Lash 0 1000000000000),(Hj.mk c.X (-500000) 500000),(Hj.mk c.Y (-500000) 500000),(Hj.mk c.Z (-500000) 500000)] r39 hr39) J5b ⟨O,O,G⟩ O) O (JLh (BL r39) (Gb O O) O (G8 (hK38 _ _ (Gx ?_))))
  exact⟨[BL r39],[],G,O,⟨⟨_,O,.conv (.same O)⟩,G⟩,O,congrArg (fun r:Bool=>(BL r:AV)) (Option.some.inj h)⟩

def G89 (s:Hc) (Rp:Bool→Prop):Option Prop:=
 bif (((decide ((s.Columns.length:Int) < 1))||(decide (200 < (s.Columns.length:Int))))||(decide (40 < (s.Covers.length:Int)))) then
 (some (Rp false))
 else
 (each (fun y68 i68 (s68:(Gu H8 Int)) nx68=>
   jp (fun kj74=>
    bif y68.Deck then
    (kj74 1)
    else
    (kj74 0)) fun(j74:Int)=>
   bnd (some (Gu.get s68 (H8.mk y68.Bay y68.Row j74) 0)) fun v77=>
   Rn (v77+1) fun v78=>
   bnd (G29 y68) fun r80=>
   bif (!r80) then
   (some (Rp false))
   else
   (nx68 (Gu.put s68 (H8.mk y68.Bay y68.Row j74) v78)))
  (fun(s68:(Gu H8 Int))=>
   each (fun y84 i84 (s84:(Gu H8 Int)) nx84=>
    bif (((decide (y84.Bay < 0))||(decide (40≤y84.Bay)))||(decide ((y84.Rows.length:Int)=0))) then
    (some (Rp false))
    else
    (each (fun y157 i157 (s157:(Gu H8 Int)) nx157=>
      bnd (bif ((!((decide (y157 < 0))||(decide (30 < y157))))&&(decide (0 < (i157:Int)))) then Rn ((i157:Int) - 1) some else some 0) fun v164=>
      bnd (bif ((!((decide (y157 < 0))||(decide (30 < y157))))&&(decide (0 < (i157:Int)))) then Rm y84.Rows v164 some else some default) fun y165=>
      bif (((decide (y157 < 0))||(decide (30 < y157)))||((decide (0 < (i157:Int)))&&(decide (y157≤y165)))) then
      (some (Rp false))
      else
      (bnd (some (Gu.get s157 (H8.mk y84.Bay y157 2) 0)) fun v167=>
       Rn (v167+1) fun v168=>
       nx157 (Gu.put s157 (H8.mk y84.Bay y157 2) v168)))
     (fun(s157:(Gu H8 Int))=>
      nx84 s157) y84.Rows 0 s84))
   (fun(s84:(Gu H8 Int))=>
    J84 (fun(x176:H8×Int) (s176:Unit) nx176=>
     bif decide (1 < x176.2) then
     (lft (some (Rp false)))
     else
     (nx176 ()))
    (fun(s176:Unit)=>
     some (Rp true)) (Gu.l s84) ()) s.Covers 0 s68) s.Columns 0 (Gu.empty:Gu H8 Int))
def Gd1 (s:Hc):Option Bool:=
 bif (((decide ((s.Columns.length:Int) < 1))||(decide (200 < (s.Columns.length:Int))))||(decide (40 < (s.Covers.length:Int)))) then
 (some (id false))
 else
 (each (fun y68 i68 (s68:(Gu H8 Int)) nx68=>
   jp (fun kj74=>
    bif y68.Deck then
    (kj74 1)
    else
    (kj74 0)) fun(j74:Int)=>
   bnd (some (Gu.get s68 (H8.mk y68.Bay y68.Row j74) 0)) fun v77=>
   Rn (v77+1) fun v78=>
   bnd (G29 y68) fun r80=>
   bif (!r80) then
   (some (id false))
   else
   (nx68 (Gu.put s68 (H8.mk y68.Bay y68.Row j74) v78)))
  (fun(s68:(Gu H8 Int))=>
   each (fun y84 i84 (s84:(Gu H8 Int)) nx84=>
    bif (((decide (y84.Bay < 0))||(decide (40≤y84.Bay)))||(decide ((y84.Rows.length:Int)=0))) then
    (some (id false))
    else
    (each (fun y157 i157 (s157:(Gu H8 Int)) nx157=>
      bnd (bif ((!((decide (y157 < 0))||(decide (30 < y157))))&&(decide (0 < (i157:Int)))) then Rn ((i157:Int) - 1) some else some 0) fun v164=>
      bnd (bif ((!((decide (y157 < 0))||(decide (30 < y157))))&&(decide (0 < (i157:Int)))) then Rm y84.Rows v164 some else some default) fun y165=>
      bif (((decide (y157 < 0))||(decide (30 < y157)))||((decide (0 < (i157:Int)))&&(decide (y157≤y165)))) then
      (some (id false))
      else
      (bnd (some (Gu.get s157 (H8.mk y84.Bay y157 2) 0)) fun v167=>
       Rn (v167+1) fun v168=>
       nx157 (Gu.put s157 (H8.mk y84.Bay y157 2) v168)))
     (fun(s157:(Gu H8 Int))=>
      nx84 s157) y84.Rows 0 s84))
   (fun(s84:(Gu H8 Int))=>
    Hb3 (fun(x176:H8×Int) (s176:Unit) nx176=>
     bif decide (1 < x176.2) then
     (lft (some (id false)))
     else
     (nx176 ()))
    (fun(s176:Unit)=>
     some (id true)) (Gu.l s84) ()) s.Covers 0 s68) s.Columns 0 (Gu.empty:Gu H8 Int))
theorem J99 (s:Hc) (Rp:Bool→Prop) (p:Prop) (h:G89 s Rp=some p) (hp:p):Pure Tryz.prog 41 [.agg (Hc.cs s)] (fun av=>∃ r,Rp r∧av=BL r):=by
 unfold G89 at h
 refine H4 [.tmp 2] Tryz.func41 O O (G5 fun K1 hK1=>G3 (JLh (.ptr 1123 0) (Jw (u:=.agg (Hc.cs s)) (cs:=(Hc.cs s)) 1123 O O O O O) O (JLh (BL false) (Gb O O) O (G8 (hK1 _ _ ?_)))))
 refine Gq [(1,Ee s)] [] 1123 rfl rfl rfl G rfl (by exact⟨.ptr,G⟩) (G5 (fun K2 hK2=>G5 fun K3 hK3=>G3 (JLh (Ee s) (Gd J0 O O O) O (JLh (E5 s.Columns) (Gk J8 O O O) O (Hp (f:=G9.av) (xs:=s.Columns) J3 O O (fun hm15=>?_) O O O)))))
 refine JLh (BL (decide ((s.Columns.length:Int) < 1))) (J2 O O O) O (JLh (BL (decide ((s.Columns.length:Int) < 1))) (G6 O O) O (Gg (u:=Ee s) [] O O O .scf G (fun hc=>Gd J0 O O O) ?_))
 refine Gg (u:=E5 s.Columns) [(18,Ee s)] O O O .scf ⟨.all id,G⟩ (fun hc=>Gk J8 O O O) ?_
 refine Gg (u:=Ek s.Columns.length) [(19,E5 s.Columns)] O O O .scf ⟨.all id,G⟩ (fun hc=>Zd (f:=G9.av) (xs:=s.Columns) J3 O O) ?_
 refine Gg (u:=BL (decide (200 < (s.Columns.length:Int)))) [(20,Ek s.Columns.length)] O O O .scf ⟨.all id,G⟩ (fun hc=>Zj O O O) ?_
 refine JLh (BL ((decide ((s.Columns.length:Int) < 1))||(decide (200 < (s.Columns.length:Int))))) (G2a O O O O) O (JLh (BL ((decide ((s.Columns.length:Int) < 1))||(decide (200 < (s.Columns.length:Int))))) (G6 O O) O (Gg (u:=.dptr [Ea s.Covers,G1 s.Light.Kilos,G1 s.Light.X,G1 s.Light.Y,G1 s.Light.Z,E7 s.Rows,E8 s.Frames,E9 s.Tanks,G1 s.G4.Tolerance,G1 s.G4.Trim,G1 s.G4.List_,G1 s.G4.Stability]) [] O O O .scf G (fun hc=>Gd G0e O O O) ?_))
 refine Gg (u:=Ea s.Covers) [(24,.dptr [Ea s.Covers,G1 s.Light.Kilos,G1 s.Light.X,G1 s.Light.Y,G1 s.Light.Z,E7 s.Rows,E8 s.Frames,E9 s.Tanks,G1 s.G4.Tolerance,G1 s.G4.Trim,G1 s.G4.List_,G1 s.G4.Stability])] O O O .scf ⟨.all id,G⟩ (fun hc=>Gk G7a O O O) ?_
 refine Gg (u:=Ek s.Covers.length) [(25,Ea s.Covers)] O O O .scf ⟨.all id,G⟩ (fun hc=>Zd (f:=Ge.av) (xs:=s.Covers) G03 O O) ?_
 refine Gg (u:=BL (decide (40 < (s.Covers.length:Int)))) [(26,Ek s.Covers.length)] O O O .scf ⟨.all id,G⟩ (fun hc=>Zj O O O) ?_
 refine JLh (BL (((decide ((s.Columns.length:Int) < 1))||(decide (200 < (s.Columns.length:Int))))||(decide (40 < (s.Covers.length:Int))))) (G2a O O O O) O (G8 (hK3 _ _ (Gn O (fun hb=>?_) (fun hb=>?_))))
 ·
  replace h:=H1 hb h
  refine G5 fun K4 hK4=>G3 (JLh (BL false) (Gb O O) O (G8 (hK4 _ _ (Gx (⟨[BL false],[],G,O,⟨⟨_,O,.conv (.same O)⟩,G⟩,O,false,Eq.mpr (Option.some.inj h) hp,O⟩)))))
 ·
  replace h:=Hv hb h
  refine Gp (hK2 _ _ (G5 fun K5 hK5=>G3 (JLh (.mp 1126) (G2b 1126 H8.kv G1 O O) O (JLh (.mp 1126) (Gb O O) O (G8 (hK5 _ _ (G5 (fun K6 hK6=>G5 fun K7 hK7=>G3 (JLh (Ee s) (Gd J0 O O O) O (JLh (E5 s.Columns) (Gk J8 O O O) O (Hp (f:=G9.av) (xs:=s.Columns) J3 O O (fun hm32=>?_) O O O)))))))))))
  refine JLh (G1 0) (G6 O O) O (G8 (hK7 _ _ (Gi ?_)))
  obtain⟨b68,kx68,hb68,hkx68,h⟩:=Hy h
  refine Ha (fun i68 (s68:(Gu H8 Int))=>each b68 kx68 (List.drop i68 s.Columns) i68 s68=some p) (fun i68 s68=>[(1,Ee s),(3,.mp 1126),(31,E5 s.Columns),(32,Ek s.Columns.length),(33,Ek i68)]) (fun i68 s68=>[(1126,MP 157 H8.kv G1 s68)]) (fun i68=>s.Columns.length - i68) 0 (Gu.empty:Gu H8 Int) h ⟨(by repeat' constructor),⟨⟨_,rfl,.map⟩,G⟩,rfl⟩ ?_
  clear h
  intro i68 s68 hi68 K68 e68
  refine G5 fun K69 hK69=>G3 (JLh (BL (decide ((i68:Int) < (s.Columns.length:Int)))) (J2 O O O) O (G8 (hK69 _ _ (G5 (fun K70 hK70=>Gn O (fun hb=>?_) (fun hb=>?_))))))
  ·
   have hk68:=Jd hb
   obtain⟨y68,nx68,hy68,hn68,h⟩:=Hr hi68 hk68
   replace h:=Rq hb68 h
   refine Gp (hK70 _ _ (G5 (fun K71 hK71=>Gi (G5 fun K72 hK72=>G3 (JLh (Ej y68) (Gz (f:=G9.av) (xs:=s.Columns) (y:=y68) O O O J3 hy68 O) O (JLh (.agg (G9.cs y68)) (Gh G6f O O O) O (JLh (.ptr 1124 0) (Hh 1124 12 G21 O O) O (Hg (u:=.junk) (H5 (u:=.agg (G9.cs y68)) (ds:=(G9.cs y68)) Gd6 O O O O O O O O) (G8 (hK72 _ _ ?_))))))))))
   refine Gq [(1,Ee s),(3,.mp 1126),(5,Ej y68),(31,E5 s.Columns),(32,Ek s.Columns.length),(33,Ek i68)] [(1126,MP 157 H8.kv G1 s68)] 1124 rfl rfl rfl ⟨⟨_,rfl,.map⟩,G⟩ rfl (by repeat' (first | exact .ptr | constructor)) (G5 fun K73 hK73=>G3 (JLh (G1 0) (Gb O O) O (G8 (hK73 _ _ ?_))))
   obtain⟨kj74,hkj74,h⟩:=Q7 h
   refine Jm (fun j74:Int=>kj74 j74=some p) (fun j74=>[(1,Ee s),(3,.mp 1126),(5,Ej y68),(6,G1 j74),(31,E5 s.Columns),(32,Ek s.Columns.length),(33,Ek i68)]) (fun j74=>[(1126,MP 157 H8.kv G1 s68)]) (fun Kj74 ej74=>?_) ?_
   ·
    refine G5 fun K75 hK75=>G3 (JLh (.dptr ((G9.cs y68).drop 2)) (Gd G33 O O O) O (JLh (BL y68.Deck) (Gk Ru O O O) O (G8 (hK75 _ _ (Gn O (fun hb=>?_) (fun hb=>?_))))))
    ·
     replace h:=H1 hb h
     refine G3 (JLh (G1 1) (Gb O O) O (G8 (ej74 _ _ 1 h ⟨(by repeat' constructor),⟨⟨_,rfl,.map⟩,G⟩,rfl⟩)))
    ·
     replace h:=Hv hb h
     refine Gp (ej74 _ _ 0 h ⟨(by repeat' constructor),⟨⟨_,rfl,.map⟩,G⟩,rfl⟩)
   ·intro j74 h
    replace h:=app1 hkj74 h
    refine G5 (fun K76 hK76=>Re (l':=[(1,Ee s),(3,.mp 1126),(5,Ej y68),(6,G1 j74),(31,E5 s.Columns),(32,Ek s.Columns.length),(33,Ek i68)]) (L':=[(1126,MP 157 H8.kv G1 s68)]) ⟨(by repeat' constructor),⟨⟨_,rfl,.map⟩,G⟩,rfl⟩ ?_)
    obtain⟨v77,hv77,h⟩:=Gf h
    obtain⟨v78,hv78,h⟩:=Hb h
    refine Qt [9,11] [0,0,0,0,0,0,0,0,0,0,1,0] [0,0,0,0,0,0,0,1,1,0,1,0] [[(1126,MP 157 H8.kv G1 s68)],((1126,MI 157 H8.kv G1 s68 (H8.mk y68.Bay y68.Row j74) 0)::[(1126,MP 157 H8.kv G1 s68)]),((1126,MP 157 H8.kv G1 (Gu.put s68 (H8.mk y68.Bay y68.Row j74) v78))::((1126,MI 157 H8.kv G1 s68 (H8.mk y68.Bay y68.Row j74) 0)::[(1126,MP 157 H8.kv G1 s68)]))] Jr (by kernel_rfl) rfl rfl ?_
    refine Gm (u:=.mp 1126) O O ⟨Gs (G6 O O) O,G⟩ (Gm (u:=Ej y68) O O ⟨Gs (Gd G35 O O O) O,G⟩ (Gm (u:=G1 y68.Bay) O O ⟨Gs (Gk Gc O O O) O,G⟩ (Gm (u:=.dptr ((G9.cs y68).drop 1)) O O ⟨Gs (Gd G34 O O O) O,G⟩ (Gm (u:=G1 y68.Row) O O ⟨Gs (Gk Gc O O O) O,G⟩ (Gm (u:=G1 j74) O O ⟨Gs (G6 O O) O,G⟩ (Gm (u:=.agg [G1 y68.Bay,G1 y68.Row,G1 j74]) O O ⟨Gs (Jaa (cs:=[G1 y68.Bay,G1 y68.Row,G1 j74]) [.int .i64 0,.int .i64 0,.int .i64 0] J6c J14 O O) O,G⟩ (Gm (u:=G1 v77) O O ⟨Gs (((Option.some.inj hv77) ▸ G9d (av:=G1) (m:=s68) (a:=(H8.mk y68.Bay y68.Row j74)) 0 (.int .i64 0) O O O O Hf1 G65 G9f O)) O,Gs (((Option.some.inj hv77) ▸ Hc5 (av:=G1) (m:=s68) (a:=(H8.mk y68.Bay y68.Row j74)) 0 (.int .i64 0) O O O O Hf1 G65 G9f O)) O,G⟩ (Gm (u:=G1 v78) O O ⟨Gs (Ht hv78 O O O) O,Gs (Ht hv78 O O O) O,G⟩ (D_w (u:=.tup [.junk,G1 (Zx (Gu.l s68) (H8.mk y68.Bay y68.Row j74):Int)]) O O O O (Gs (H79 (m:=s68) (a:=(H8.mk y68.Bay y68.Row j74)) 0 (.int .i64 0) O O O O Hf1 G65 G9f O) O) (Gm (u:=G1 (Zx (Gu.l s68) (H8.mk y68.Bay y68.Row j74):Int)) O O ⟨Gs (H0 O O O) O,G⟩ (J3e (u:=.junk) O O O O (Gs (H1c (m:=s68) (a:=(H8.mk y68.Bay y68.Row j74)) (v:=v78) 0 O O O O O O) O) (Zu ?_))))))))))))
    refine hK76 _ _ (G5 fun K79 hK79=>G3 (JLh (.agg (G9.cs y68)) (Gh G6f O O O) O ?_))
    obtain⟨r80,hr80,h⟩:=Gf h
    refine JLh (BL r80) (Gy (args:=[.agg (G9.cs y68)]) O (J98 y68 r80 hr80) Jef ⟨O,O,G⟩) O (JLh (BL (!r80)) (Zy (b:=r80) O O) O (G8 (hK79 _ _ (Gn O (fun hb=>?_) (fun hb=>?_)))))
    ·
     replace h:=H1 hb h
     refine G5 fun K81 hK81=>G3 (JLh (BL false) (Gb O O) O (G8 (hK81 _ _ (Gx (⟨[BL false],[],G,O,⟨⟨_,O,.conv (.same O)⟩,G⟩,O,false,Eq.mpr (Option.some.inj h) hp,O⟩)))))
    ·
     replace h:=Hv hb h
     refine Gp (hK71 _ _ (G3 (JLh (G1 ((i68+1:Nat):Int)) (Ht (Hn hk68 hm32) O O O) O (JLh (G1 ((i68+1:Nat):Int)) (G6 O O) O (G8 (e68 _ _ (i68+1) (Gu.put s68 (H8.mk y68.Bay y68.Row j74) v78) (app1 hn68 h) (by omega) ⟨(by repeat' constructor),⟨⟨_,rfl,.map⟩,G⟩,rfl⟩))))))
  ·
   have h:=app1 hkx68 (Hs hi68 (H9 hb))
   refine Hi (hK6 _ _ (G5 (fun K82 hK82=>G5 fun K83 hK83=>G3 (JLh (.dptr [Ea s.Covers,G1 s.Light.Kilos,G1 s.Light.X,G1 s.Light.Y,G1 s.Light.Z,E7 s.Rows,E8 s.Frames,E9 s.Tanks,G1 s.G4.Tolerance,G1 s.G4.Trim,G1 s.G4.List_,G1 s.G4.Stability]) (Gd G0e O O O) O (JLh (Ea s.Covers) (Gk G7a O O O) O (Hp (f:=Ge.av) (xs:=s.Covers) G03 O O (fun hm56=>?_) O O O))))))
   refine JLh (G1 0) (G6 O O) O (G8 (hK83 _ _ (Gi ?_)))
   obtain⟨b84,kx84,hb84,hkx84,h⟩:=Hy h
   refine Ha (fun i84 (s84:(Gu H8 Int))=>each b84 kx84 (List.drop i84 s.Covers) i84 s84=some p) (fun i84 s84=>[(3,.mp 1126),(55,Ea s.Covers),(56,Ek s.Covers.length),(57,Ek i84)]) (fun i84 s84=>[(1126,MP 157 H8.kv G1 s84)]) (fun i84=>s.Covers.length - i84) 0 s68 h ⟨(by repeat' constructor),⟨⟨_,rfl,.map⟩,G⟩,rfl⟩ ?_
   clear h
   intro i84 s84 hi84 K84 e84
   refine G5 fun K85 hK85=>G3 (JLh (BL (decide ((i84:Int) < (s.Covers.length:Int)))) (J2 O O O) O (G8 (hK85 _ _ (G5 (fun K86 hK86=>Gn O (fun hb=>?_) (fun hb=>?_))))))
   ·
    have hk84:=Jd hb
    obtain⟨y84,nx84,hy84,hn84,h⟩:=Hr hi84 hk84
    replace h:=Rq hb84 h
    refine Gp (hK86 _ _ (G5 (fun K87 hK87=>Gi (G5 fun K88 hK88=>G3 (JLh (.dptr [G1 y84.Bay,E1 y84.Rows]) (Gz (f:=Ge.av) (xs:=s.Covers) (y:=y84) O O O G03 hy84 O) O (JLh (.agg [G1 y84.Bay,E1 y84.Rows]) (Gh H7f O O O) O (JLh (.ptr 1125 0) (Hh 1125 2 Gf5 O O) O (Hg (u:=.junk) (H5 (u:=.agg [G1 y84.Bay,E1 y84.Rows]) (ds:=[G1 y84.Bay,E1 y84.Rows]) J50 O O O O O O O O) (G8 (hK88 _ _ (Gq [(3,.mp 1126),(8,.dptr [G1 y84.Bay,E1 y84.Rows]),(55,Ea s.Covers),(56,Ek s.Covers.length),(57,Ek i84)] [(1126,MP 157 H8.kv G1 s84)] 1125 rfl rfl rfl ⟨⟨_,rfl,.map⟩,G⟩ rfl (by repeat' (first | exact .ptr | constructor)) (G5 (fun K89 hK89=>?_)))))))))))))
    refine G5 fun K90 hK90=>G3 (JLh (.dptr [G1 y84.Bay,E1 y84.Rows]) (Gd Ga2 O O O) O (JLh (G1 y84.Bay) (Gk Gc O O O) O (JLh (BL (decide (y84.Bay < 0))) (J2 O O O) O (JLh (BL (decide (y84.Bay < 0))) (G6 O O) O (Gg (u:=.dptr [G1 y84.Bay,E1 y84.Rows]) [] O O O .scf G (fun hc=>Gd Ga2 O O O) ?_)))))
    refine Gg (u:=G1 y84.Bay) [(65,.dptr [G1 y84.Bay,E1 y84.Rows])] O O O .scf ⟨.all id,G⟩ (fun hc=>Gk Gc O O O) ?_
    refine Gg (u:=BL (decide (40≤y84.Bay))) [(66,G1 y84.Bay)] O O O .scf ⟨.all id,G⟩ (fun hc=>G4b O O O) ?_
    refine JLh (BL ((decide (y84.Bay < 0))||(decide (40≤y84.Bay)))) (G2a O O O O) O (JLh (BL ((decide (y84.Bay < 0))||(decide (40≤y84.Bay)))) (G6 O O) O (Gg (u:=.dptr [E1 y84.Rows]) [] O O O .scf G (fun hc=>Gd Ga1 O O O) ?_))
    refine Gg (u:=E1 y84.Rows) [(70,.dptr [E1 y84.Rows])] O O O .scf ⟨.all id,G⟩ (fun hc=>Gk Qy O O O) ?_
    refine Gg (u:=Ek y84.Rows.length) [(71,E1 y84.Rows)] O O O .scf ⟨.all id,G⟩ (fun hc=>Zd (f:=G1) (xs:=y84.Rows) Gt O O) ?_
    refine Gg (u:=BL (decide ((y84.Rows.length:Int)=0))) [(72,Ek y84.Rows.length)] O O O .scf ⟨.all id,G⟩ (fun hc=>Qh O O O) ?_
    refine JLh (BL (((decide (y84.Bay < 0))||(decide (40≤y84.Bay)))||(decide ((y84.Rows.length:Int)=0)))) (G2a O O O O) O (G8 (hK90 _ _ (Gn O (fun hb=>?_) (fun hb=>?_))))
    ·
     replace h:=H1 hb h
     refine G5 fun K91 hK91=>G3 (JLh (BL false) (Gb O O) O (G8 (hK91 _ _ (Gx (⟨[BL false],[],G,O,⟨⟨_,O,.conv (.same O)⟩,G⟩,O,false,Eq.mpr (Option.some.inj h) hp,O⟩)))))
    ·
     replace h:=Hv hb h
     refine Gp (hK89 _ _ (G5 fun K92 hK92=>G3 (JLh (.dptr [E1 y84.Rows]) (Gd Ga1 O O O) O (JLh (E1 y84.Rows) (Gk Qy O O O) O (Hp (f:=G1) (xs:=y84.Rows) Gt O O (fun hm77=>?_) O O O)))))
     refine JLh (G1 0) (G6 O O) O (G8 (hK92 _ _ (Gi ?_)))
     obtain⟨b157,kx157,hb157,hkx157,h⟩:=Hy h
     refine Ha (fun i157 (s157:(Gu H8 Int))=>each b157 kx157 (List.drop i157 y84.Rows) i157 s157=some p) (fun i157 s157=>[(3,.mp 1126),(8,.dptr [G1 y84.Bay,E1 y84.Rows]),(55,Ea s.Covers),(56,Ek s.Covers.length),(57,Ek i84),(76,E1 y84.Rows),(77,Ek y84.Rows.length),(78,Ek i157)]) (fun i157 s157=>[(1126,MP 157 H8.kv G1 s157)]) (fun i157=>y84.Rows.length - i157) 0 s84 h ⟨(by repeat' constructor),⟨⟨_,rfl,.map⟩,G⟩,rfl⟩ ?_
     clear h
     intro i157 s157 hi157 K157 e157
     refine G5 fun K158 hK158=>G3 (JLh (BL (decide ((i157:Int) < (y84.Rows.length:Int)))) (J2 O O O) O (G8 (hK158 _ _ (G5 (fun K159 hK159=>Gn O (fun hb=>?_) (fun hb=>?_))))))
     ·
      have hk157:=Jd hb
      obtain⟨y157,nx157,hy157,hn157,h⟩:=Hr hi157 hk157
      replace h:=Rq hb157 h
      refine Gp (hK159 _ _ (G5 (fun K160 hK160=>Gi (G5 fun K161 hK161=>G3 (JLh (Ek i157) (G6 O O) O (JLh (.dptr [G1 y157]) (Gz (f:=G1) (xs:=y84.Rows) (y:=y157) O O O Gt hy157 O) O (JLh (G1 y157) (Gk Gc O O O) O (JLh (Ek i157) (Gb O O) O (JLh (G1 y157) (Gb O O) O (G8 (hK161 _ _ (G5 (fun K162 hK162=>G5 fun K163 hK163=>G3 (JLh (G1 y157) (G6 O O) O (JLh (BL (decide (y157 < 0))) (J2 O O O) O (JLh (BL (decide (y157 < 0))) (G6 O O) O (Gg (u:=G1 y157) [] O O O .scf G (fun hc=>G6 O O) ?_)))))))))))))))))
      refine Gg (u:=BL (decide (30 < y157))) [(86,G1 y157)] O O O .scf ⟨.all id,G⟩ (fun hc=>Zj O O O) ?_
      refine JLh (BL ((decide (y157 < 0))||(decide (30 < y157)))) (G2a O O O O) O (JLh (BL ((decide (y157 < 0))||(decide (30 < y157)))) (G6 O O) O (Gg (u:=Ek i157) [] O O O .scf G (fun hc=>G6 O O) ?_))
      refine Gg (u:=BL (decide (0 < (i157:Int)))) [(90,Ek i157)] O O O .scf ⟨.all id,G⟩ (fun hc=>Zj O O O) ?_
      refine Gg (u:=BL (decide (0 < (i157:Int)))) [(91,BL (decide (0 < (i157:Int))))] O O O .scf ⟨.all id,G⟩ (fun hc=>G6 O O) ?_
      refine Gg (u:=G1 y157) [] O O O .optt G (fun hc=>G6 O O) ?_
      refine Gg (u:=.dptr [E1 y84.Rows]) [] O O O .optt G (fun hc=>Gd Ga1 O O O) ?_
      refine Gg (u:=E1 y84.Rows) [(94,.dptr [E1 y84.Rows])] O O O .optt ⟨.all id,G⟩ (fun hc=>Gk Qy O O O) ?_
      refine Gg (u:=Ek i157) [] O O O .optt G (fun hc=>G6 O O) ?_
      obtain⟨v164,hv164,h⟩:=Gf h
      refine Gg (u:=G1 v164) [(96,Ek i157)] O O O .optt ⟨.all id,G⟩ (fun hc=>G18 (H68 (H1 hc hv164)) O O O) ?_
      obtain⟨y165,hy165,h⟩:=Gf h
      refine Gg (u:=.dptr [G1 y165]) [(95,E1 y84.Rows),(97,G1 v164)] O O O .optt ⟨.all id,.all id,G⟩ (fun hc=>(match Yi (H1 hc hy165) with | ⟨_,hm_,hy_⟩=>Gz (f:=G1) (xs:=y84.Rows) (y:=y165) O O O Gt hy_ hm_)) ?_
      refine Gg (u:=G1 y165) [(98,.dptr [G1 y165])] O O O .optt ⟨.all id,G⟩ (fun hc=>Gk Gc O O O) ?_
      refine Gg (u:=BL (decide (y157≤y165))) [(93,G1 y157),(99,G1 y165)] O O O .optt ⟨.all id,.all id,G⟩ (fun hc=>Gc4 O O O) ?_
      refine Gg (u:=BL ((decide (0 < (i157:Int)))&&(decide (y157≤y165)))) [(92,BL (decide (0 < (i157:Int)))),(100,_)] O O O .scf ⟨.all id,.part,G⟩ (fun hc=>Qc O O O O) ?_
      refine JLh (BL (((decide (y157 < 0))||(decide (30 < y157)))||((decide (0 < (i157:Int)))&&(decide (y157≤y165))))) (G2a O O O O) O (G8 (hK163 _ _ (Gn O (fun hb=>?_) (fun hb=>?_))))
      ·
       replace h:=H1 hb h
       refine G5 fun K166 hK166=>G3 (JLh (BL false) (Gb O O) O (G8 (hK166 _ _ (Gx (⟨[BL false],[],G,O,⟨⟨_,O,.conv (.same O)⟩,G⟩,O,false,Eq.mpr (Option.some.inj h) hp,O⟩)))))
      ·
       replace h:=Hv hb h
       refine Gp (hK162 _ _ (Re (l':=[(3,.mp 1126),(8,.dptr [G1 y84.Bay,E1 y84.Rows]),(10,G1 y157),(55,Ea s.Covers),(56,Ek s.Covers.length),(57,Ek i84),(76,E1 y84.Rows),(77,Ek y84.Rows.length),(78,Ek i157)]) (L':=[(1126,MP 157 H8.kv G1 s157)]) ⟨(by repeat' constructor),⟨⟨_,rfl,.map⟩,G⟩,rfl⟩ ?_))
       obtain⟨v167,hv167,h⟩:=Gf h
       obtain⟨v168,hv168,h⟩:=Hb h
       refine Qt [7,9] [0,0,0,0,0,0,0,0,1,0] [0,0,0,0,0,1,1,0,1,0] [[(1126,MP 157 H8.kv G1 s157)],((1126,MI 157 H8.kv G1 s157 (H8.mk y84.Bay y157 2) 0)::[(1126,MP 157 H8.kv G1 s157)]),((1126,MP 157 H8.kv G1 (Gu.put s157 (H8.mk y84.Bay y157 2) v168))::((1126,MI 157 H8.kv G1 s157 (H8.mk y84.Bay y157 2) 0)::[(1126,MP 157 H8.kv G1 s157)]))] Jr (by kernel_rfl) rfl rfl ?_
       refine Gm (u:=.mp 1126) O O ⟨Gs (G6 O O) O,G⟩ (Gm (u:=.dptr [G1 y84.Bay,E1 y84.Rows]) O O ⟨Gs (Gd Ga2 O O O) O,G⟩ (Gm (u:=G1 y84.Bay) O O ⟨Gs (Gk Gc O O O) O,G⟩ (Gm (u:=G1 y157) O O ⟨Gs (G6 O O) O,G⟩ (Gm (u:=.agg [G1 y84.Bay,G1 y157,G1 2]) O O ⟨Gs (Jaa (cs:=[G1 y84.Bay,G1 y157,G1 2]) [.int .i64 0,.int .i64 0,.int .i64 0] J6c J14 O O) O,G⟩ (Gm (u:=G1 v167) O O ⟨Gs (((Option.some.inj hv167) ▸ G9d (av:=G1) (m:=s157) (a:=(H8.mk y84.Bay y157 2)) 0 (.int .i64 0) O O O O Hf1 G65 G9f O)) O,Gs (((Option.some.inj hv167) ▸ Hc5 (av:=G1) (m:=s157) (a:=(H8.mk y84.Bay y157 2)) 0 (.int .i64 0) O O O O Hf1 G65 G9f O)) O,G⟩ (Gm (u:=G1 v168) O O ⟨Gs (Ht hv168 O O O) O,Gs (Ht hv168 O O O) O,G⟩ (D_w (u:=.tup [.junk,G1 (Zx (Gu.l s157) (H8.mk y84.Bay y157 2):Int)]) O O O O (Gs (H79 (m:=s157) (a:=(H8.mk y84.Bay y157 2)) 0 (.int .i64 0) O O O O Hf1 G65 G9f O) O) (Gm (u:=G1 (Zx (Gu.l s157) (H8.mk y84.Bay y157 2):Int)) O O ⟨Gs (H0 O O O) O,G⟩ (J3e (u:=.junk) O O O O (Gs (H1c (m:=s157) (a:=(H8.mk y84.Bay y157 2)) (v:=v168) 0 O O O O O O) O) (Zu ?_))))))))))
       refine hK160 _ _ (G3 (JLh (G1 ((i157+1:Nat):Int)) (Ht (Hn hk157 hm77) O O O) O (JLh (G1 ((i157+1:Nat):Int)) (G6 O O) O (G8 (e157 _ _ (i157+1) (Gu.put s157 (H8.mk y84.Bay y157 2) v168) (app1 hn157 h) (by omega) ⟨(by repeat' constructor),⟨⟨_,rfl,.map⟩,G⟩,rfl⟩)))))
     ·
      have h:=app1 hkx157 (Hs hi157 (H9 hb))
      refine Hi (hK87 _ _ (G3 (JLh (G1 ((i84+1:Nat):Int)) (Ht (Hn hk84 hm56) O O O) O (JLh (G1 ((i84+1:Nat):Int)) (G6 O O) O (G8 (e84 _ _ (i84+1) s157 (app1 hn84 h) (by omega) ⟨(by repeat' constructor),⟨⟨_,rfl,.map⟩,G⟩,rfl⟩))))))
   ·
    have h:=app1 hkx84 (Hs hi84 (H9 hb))
    refine Hi (hK82 _ _ (G5 (fun K169 hK169=>G5 fun K170 hK170=>G3 (JLh (.mp 1126) (G6 O O) O (JLh (.it 1127) (Hed 1127 (m:=s84) O O O O G65) O (G8 (hK170 _ _ (Gi ?_))))))))
    obtain⟨b176,kx176,hb176,hkx176,h⟩:=Hda h
    refine He7 (Gu.size s84) (fun i176 (s176:Unit)=>MInv b176 kx176 (Gu.l s84) i176 s176) (fun i176 s176=>[(115,.it 1127)]) (fun i176 s176=>[(1126,MP 157 H8.kv G1 s84),(1127,.iter 1126 (Gu.size s84) i176)]) () (MInv.start h hp) ⟨⟨.same O,G⟩,⟨⟨_,O,.map⟩,⟨_,O,.iter O⟩,G⟩,O⟩ ?_
    clear h hp
    intro i176 s176 hi176 K176 e176
    refine G5 fun K177 hK177=>G3 (H0c O O O (J47 (m:=s84) O O O O) ?_)
    intro u_ L_ hn_
    rcases hn_ with ⟨q176,x176,he176,hs176,rfl,rfl⟩ | ⟨ha176,rfl,rfl⟩
    ·
     obtain⟨o176,h,ho1_176,ho2_176⟩:=hi176.step he176 hs176
     replace h:=J8a hb176 h
     refine JLh (BL true) (H0 O O O) O (G8 (hK177 _ _ (G5 (fun K178 hK178=>He8 O (Gp (hK178 _ _ (Gi (G5 fun K179 hK179=>G3 (JLh (.tup [.agg (H8.cs x176.1),G1 x176.2]) (Hef (kv:=H8.kv) (av:=G1) (m:=s84) (q:=q176) (seen:=i176) (e:=x176) O O O O he176) O (JLh (G1 x176.2) (H0 O O O) O (JLh (G1 x176.2) (Gb O O) O (G8 (hK179 _ _ (G5 fun K180 hK180=>G3 (JLh (G1 x176.2) (G6 O O) O (JLh (BL (decide (1 < x176.2))) (Zj O O O) O (G8 (hK180 _ _ (Gn O (fun hb=>?_) (fun hb=>?_))))))))))))))))))))
     ·
      replace h:=H1 hb h
      refine G5 fun K181 hK181=>G3 (JLh (BL false) (Gb O O) O (G8 (hK181 _ _ (Gx ?_))))
      obtain⟨y_,hy_,hl_⟩:=lft_out h
      exact⟨[BL false],[],G,O,⟨⟨_,O,.conv (.same O)⟩,G⟩,O,false,Eq.mpr (Option.some.inj hl_) (ho1_176 y_ hy_),O⟩
     ·
      replace h:=Hv hb h
      refine Gp (e176 _ _ (i176++[q176]) () (ho2_176 _ (Option.some.inj h).symm) (H7c (List.getElem?_eq_some_iff.1 he176).1 hs176) ⟨⟨.same O,G⟩,⟨⟨_,O,.map⟩,⟨_,O,.iter O⟩,G⟩,O⟩)
    ·
     obtain⟨p_,h,hp⟩:=hi176.done ha176
     replace h:=app1 hkx176 h
     refine JLh (BL false) (H0 O O O) O (G8 (hK177 _ _ (G5 (fun K182 hK182=>H74 O (Hi (hK169 _ _ (G5 fun K183 hK183=>G3 (JLh (BL true) (Gb O O) O (G8 (hK183 _ _ (Gx (⟨[BL true],[],G,O,⟨⟨_,O,.conv (.same O)⟩,G⟩,O,true,Eq.mpr (Option.some.inj h) hp,O⟩))))))))))))
theorem J9a (S_:(Hc)→Option Bool) (hS_:∀ s r,S_ s=some r→∃ p:Prop,G89 s (fun r_=>r_=r)=some p∧p) (s:Hc) (r:Bool) (h:S_ s=some r):Pure Tryz.prog 41 [.agg (Hc.cs s)] (·=BL r):=by
 obtain⟨p,h1,h2⟩:=hS_ s r h
 exact(J99 s _ p h1 h2).monoP (fun av hh=>by obtain⟨r_,rfl,ha⟩:=hh; exact ha)

def G11 (size:Int):Option (List Int):=
 bif decide (size=40) then
 (some [0])
 else
 (bif decide (size=20) then
  (some [1,2])
  else
  (some []))
theorem H53 (size:Int) (r:(List Int)) (h:G11 size=some r):Pure Tryz.prog 86 [U8 size] (·=Eb r):=by
 unfold G11 at h
 refine H4 [.tmp 2] Tryz.func86 O O (G5 fun K1 hK1=>G3 (JLh (Eb ([]:List Int)) (Q4 1 O O) O (G8 (hK1 _ _ (G5 (fun K2 hK2=>G5 fun K3 hK3=>G3 (JLh (U8 size) (G6 O O) O (G8 (hK3 _ _ (Gi (G5 fun K4 hK4=>G3 (JLh (BL (decide (size=40))) (Qh O O O) O (JLh (BL (decide (size=40))) (Gb O O) O (G8 (hK4 _ _ (Gn O (fun hb=>?_) (fun hb=>?_)))))))))))))))))
 ·
  replace h:=H1 hb h
  refine G5 fun K5 hK5=>G3 (JLh (Eb [0]) (Hf (xs:=[U8 0]) O ⟨O,O,G⟩ G04 J4c O O O O) O (JLh (Eb [0]) (Gb O O) O (G8 (hK5 _ _ (Gx (⟨[Eb [0]],[],G,O,⟨⟨_,O,.conv (.same O)⟩,G⟩,O,congrArg (fun r:(List Int)=>(Eb r:AV)) (Option.some.inj h)⟩))))))
 ·
  replace h:=Hv hb h
  refine G5 fun K6 hK6=>G3 (JLh (BL (decide (size=20))) (Qh O O O) O (JLh (BL (decide (size=20))) (Gb O O) O (G8 (hK6 _ _ (Gn O (fun hb=>?_) (fun hb=>?_))))))
  ·
   replace h:=H1 hb h
   refine G5 fun K7 hK7=>G3 (JLh (Eb [1,2]) (Hf (xs:=[U8 1,U8 2]) O ⟨O,O,O,O,G⟩ G04 J4c O O O O) O (JLh (Eb [1,2]) (Gb O O) O (G8 (hK7 _ _ (Gx (⟨[Eb [1,2]],[],G,O,⟨⟨_,O,.conv (.same O)⟩,G⟩,O,congrArg (fun r:(List Int)=>(Eb r:AV)) (Option.some.inj h)⟩))))))
  ·
   replace h:=Hv hb h
   refine Gp (hK2 _ _ (G5 fun K8 hK8=>G3 (JLh (Eb ([]:List Int)) (Q4 1 O O) O (G8 (hK8 _ _ (Gx (⟨[Eb ([]:List Int)],[],G,O,⟨⟨_,O,.conv (.same O)⟩,G⟩,O,congrArg (fun r:(List Int)=>(Eb r:AV)) (Option.some.inj h)⟩)))))))

def G86 (p1:Hc) (p2:Int) (ys_:List Slot):Option Unit:=
 each (fun y2 i2 (s2:Nat) nx2=>
  need (decide ((max y2.Tiers 0)≤9223372036854775807)) <|
  upto (fun i8 (s8:Nat) nx8=>
   bnd (G11 p2) fun r14=>
   each (fun y29 i29 (s29:Nat) nx29=>
    need (decide (ys_[s29]? = some (Slot.mk (i2:Int) (i8:Int) y29))) <|
    nx29 (s29+1))
   (fun(s29:Nat)=>
    nx8 s29) r14 0 s8)
  (fun(s8:Nat)=>
   nx2 s8) (max y2.Tiers 0).toNat 0 s2)
 (fun(s2:Nat)=>
  need (decide (s2=ys_.length)) (some ())) p1.Columns 0 0
theorem J05 (p1:Hc) (p2:Int) (ys_:List Slot) (q_:Unit) (h:G86 p1 p2 ys_=some q_):Iter Tryz.prog 91 [.dptr (Hc.cs p1),.dptr [U8 p2]] (ys_.map (fun y:Slot=>[.agg [G1 y.G9,G1 y.Tier,U8 y.Half]])):=by
 unfold G86 at h
 refine Iter_of Tryz.func91 O O ?_
 intro E hE hys
 refine Zc (fun K1 hK1=>R4 (Jp (u:=Ee p1) hE (Gd J0 O O O) ?_ O O O O))
 refine Jp (u:=E5 p1.Columns) hE (Gk J8 O O O) ?_ O O O O
 refine Ja1 hE (f:=G9.av) (xs:=p1.Columns) J3 O O (fun hm11=>?_) O O O
 refine Jp (u:=G1 0) hE (G6 O O) ?_ O O O O
 refine Z3 ?_
 refine hK1 _ _ _ (Gb6 ?_)
 obtain⟨b2,kx2,hb2,hkx2,h⟩:=Hy h
 refine He5 (fun i2 (s2:Nat)=>each b2 kx2 (List.drop i2 p1.Columns) i2 s2=some q_) (fun i2 s2=>[(0,.sc (.func (.yield E.lp) #[] #[])),(2,.dptr [U8 p2]),(10,E5 p1.Columns),(11,Ek p1.Columns.length),(12,Ek i2)]) (fun i2 s2=>[]) (fun i2 s2=>s2) (fun i2=>p1.Columns.length - i2) 0 0 h ⟨(by repeat' constructor),G,rfl⟩ rfl ?_
 clear h
 intro i2 s2 hi2 K2 e2
 refine Zc (fun K3 hK3=>R4 (Jp (u:=BL (decide ((i2:Int) < (p1.Columns.length:Int)))) hE (J2 O O O) ?_ O O O O))
 refine Z3 ?_
 refine hK3 _ _ _ (Zc (fun K4 hK4=>H93 O (fun hb=>?_) (fun hb=>?_)))
 ·
  have hk2:=Jd hb
  obtain⟨y2,nx2,hy2,hn2,h⟩:=Hr hi2 hk2
  replace h:=Rq hb2 h
  refine H92 (hK4 _ _ _ (Zc (fun K5 hK5=>Gb6 (Zc (fun K6 hK6=>R4 (Jp (u:=Ek i2) hE (G6 O O) ?_ O O O O))))))
  refine Jp (u:=Ej y2) hE (Gz (f:=G9.av) (xs:=p1.Columns) (y:=y2) O O O J3 hy2 O) ?_ O O O O
  refine Jp (u:=.agg (G9.cs y2)) hE (Gh G6f O O O) ?_ O O O O
  refine Jp (u:=.ptr 1174 0) hE (Hh 1174 12 G21 O O) ?_ O O O O
  refine Jp (u:=Ek i2) hE (Gb O O) ?_ O O O O
  refine JIL_go0 (u:=.junk) hE (H5 (u:=.agg (G9.cs y2)) (ds:=(G9.cs y2)) Gd6 O O O O O O O O) ?_ O O O
  refine Z3 ?_
  refine hK6 _ _ _ (Zc (fun K7 hK7=>R4 (Jp (u:=.ptr 1174 3) hE (Jf G32 O O) ?_ O O O O)))
  refine Jp (u:=G1 y2.Tiers) hE (Jv Gc O O O O) ?_ O O O O
  refine Jp (u:=G1 (max y2.Tiers 0)) hE (A_max O O O) ?_ O O O O
  refine Jp (u:=G1 0) hE (G6 O O) ?_ O O O O
  refine Z3 ?_
  refine hK7 _ _ _ (Gb6 ?_)
  obtain⟨hx8,h⟩:=Hz h
  obtain⟨b8,kx8,hb8,hkx8,h⟩:=H2d h
  refine He5 (fun i8 (s8:Nat)=>upto b8 kx8 ((max y2.Tiers 0).toNat - i8) i8 s8=some q_) (fun i8 s8=>[(0,.sc (.func (.yield E.lp) #[] #[])),(2,.dptr [U8 p2]),(4,Ek i2),(10,E5 p1.Columns),(11,Ek p1.Columns.length),(12,Ek i2),(19,G1 (max y2.Tiers 0)),(20,Ek i8)]) (fun i8 s8=>[(1174,.box 59 (G9.cs y2))]) (fun i8 s8=>s8) (fun i8=>(max y2.Tiers 0).toNat - i8) 0 s2 h ⟨(by repeat' constructor),⟨⟨_,rfl,.boxL rfl (by repeat' constructor)⟩,G⟩,rfl⟩ rfl ?_
  clear h
  intro i8 s8 hi8 K8 e8
  refine Zc (fun K9 hK9=>R4 (Jp (u:=BL (decide ((i8:Int) < (max y2.Tiers 0)))) hE (J2 O O O) ?_ O O O O))
  refine Z3 ?_
  refine hK9 _ _ _ (Zc (fun K10 hK10=>H93 O (fun hb=>?_) (fun hb=>?_)))
  ·
   have hk8:=Ge0 hb
   obtain⟨nx8,hn8,h⟩:=Gd3 hi8 hk8
   replace h:=J8a hb8 h
   refine H92 (hK10 _ _ _ (Zc (fun K11 hK11=>Gb6 (Zc (fun K12 hK12=>R4 (Jp (u:=Ek i8) hE (G6 O O) ?_ O O O O))))))
   refine Jp (u:=Ek i8) hE (Gb O O) ?_ O O O O
   refine Z3 ?_
   refine hK12 _ _ _ (Zc (fun K13 hK13=>R4 (Jp (u:=U8 p2) hE (Gk J7 O O O) ?_ O O O O)))
   obtain⟨r14,hr14,h⟩:=Gf h
   refine Jp (u:=Eb r14) hE (Gy (args:=[U8 p2]) O (H53 p2 r14 hr14) J5e ⟨O,O,G⟩) ?_ O O O O
   refine Ja1 hE (f:=U8) (xs:=r14) G04 O O (fun hm25=>?_) O O O
   refine Jp (u:=G1 0) hE (G6 O O) ?_ O O O O
   refine Z3 ?_
   refine hK13 _ _ _ (Gb6 ?_)
   obtain⟨b29,kx29,hb29,hkx29,h⟩:=Hy h
   refine He5 (fun i29 (s29:Nat)=>each b29 kx29 (List.drop i29 r14) i29 s29=some q_) (fun i29 s29=>[(0,.sc (.func (.yield E.lp) #[] #[])),(2,.dptr [U8 p2]),(4,Ek i2),(6,Ek i8),(10,E5 p1.Columns),(11,Ek p1.Columns.length),(12,Ek i2),(19,G1 (max y2.Tiers 0)),(20,Ek i8),(24,Eb r14),(25,Ek r14.length),(26,Ek i29)]) (fun i29 s29=>[(1174,.box 59 (G9.cs y2))]) (fun i29 s29=>s29) (fun i29=>r14.length - i29) 0 s8 h ⟨(by repeat' constructor),⟨⟨_,rfl,.boxL rfl (by repeat' constructor)⟩,G⟩,rfl⟩ rfl ?_
   clear h
   intro i29 s29 hi29 K29 e29
   refine Zc (fun K30 hK30=>R4 (Jp (u:=BL (decide ((i29:Int) < (r14.length:Int)))) hE (J2 O O O) ?_ O O O O))
   refine Z3 ?_
   refine hK30 _ _ _ (Zc (fun K31 hK31=>H93 O (fun hb=>?_) (fun hb=>?_)))
   ·
    have hk29:=Jd hb
    obtain⟨y29,nx29,hy29,hn29,h⟩:=Hr hi29 hk29
    replace h:=Rq hb29 h
    refine H92 (hK31 _ _ _ (Zc (fun K32 hK32=>Gb6 (Zc (fun K33 hK33=>R4 (Jp (u:=.dptr [U8 y29]) hE (Gz (f:=U8) (xs:=r14) (y:=y29) O O O G04 hy29 O) ?_ O O O O))))))
    refine Jp (u:=U8 y29) hE (Gk J7 O O O) ?_ O O O O
    refine Jp (u:=U8 y29) hE (Gb O O) ?_ O O O O
    refine Z3 ?_
    refine hK33 _ _ _ (Zc (fun K34 hK34=>R4 (Jp (u:=.sc (.func (.yield E.lp) #[] #[])) hE (G6 O O) ?_ O O O O)))
    refine Jp (u:=Ek i2) hE (G6 O O) ?_ O O O O
    refine Jp (u:=Ek i8) hE (G6 O O) ?_ O O O O
    refine Jp (u:=U8 y29) hE (G6 O O) ?_ O O O O
    refine Jp (u:=.agg [Ek i2,Ek i8,U8 y29]) hE (Ji (cs:=[Ek i2,Ek i8,U8 y29]) [(0,1),(1,1),(2,1)] [G1 0,G1 0,U8 0] [.int .i64 0,.int .i64 0,.int .u8 0] H10 Gf6 ⟨.inl O,.inl O,.inl O,G⟩ O O) ?_ O O O O
    obtain⟨ha35,h⟩:=Hz h
    refine Jbb (us:=[.agg [Ek i2,Ek i8,U8 y29]]) hE O O ⟨O,O,G⟩ (yld_at (f:=(fun y:Slot=>[.agg [G1 y.G9,G1 y.Tier,U8 y.Half]])) (x:=(Slot.mk (i2:Int) (i8:Int) y29)) hys ha35) ?_ O O O
    refine Jp (u:=BL false) hE (Zy (b:=true) O O) ?_ O O O O
    refine Z3 ?_
    refine hK34 _ _ _ (JI_condF O (H92 (hK32 _ _ _ (R4 (Jp (u:=G1 ((i29+1:Nat):Int)) hE (Ht (Hn hk29 hm25) O O O) ?_ O O O O)))))
    refine Jp (u:=G1 ((i29+1:Nat):Int)) hE (G6 O O) ?_ O O O O
    refine Z3 ?_
    exact e29 _ _ (i29+1) (s29+1) _ (app1 hn29 h) (by omega) ⟨(by repeat' constructor),⟨⟨_,rfl,.boxL rfl (by repeat' constructor)⟩,G⟩,rfl⟩ rfl
   ·
    have h:=app1 hkx29 (Hs hi29 (H9 hb))
    refine J45 (hK11 _ _ _ (R4 (Jp (u:=G1 ((i8+1:Nat):Int)) hE (Ht (Hn hk8 (G92 hx8)) O O O) ?_ O O O O)))
    refine Jp (u:=G1 ((i8+1:Nat):Int)) hE (G6 O O) ?_ O O O O
    refine Z3 ?_
    exact e8 _ _ (i8+1) s29 _ (app1 hn8 h) (by omega) ⟨(by repeat' constructor),⟨⟨_,rfl,.boxL rfl (by repeat' constructor)⟩,G⟩,rfl⟩ rfl
  ·
   have h:=app1 hkx8 (Gd4 hi8 (G24 hb))
   refine J45 (hK5 _ _ _ (R4 (Jp (u:=G1 ((i2+1:Nat):Int)) hE (Ht (Hn hk2 hm11) O O O) ?_ O O O O)))
   refine Jp (u:=G1 ((i2+1:Nat):Int)) hE (G6 O O) ?_ O O O O
   refine Z3 ?_
   exact e2 _ _ (i2+1) s8 _ (app1 hn2 h) (by omega) ⟨(by repeat' constructor),G,rfl⟩ rfl
 ·
  have h:=app1 hkx2 (Hs hi2 (H9 hb))
  refine J45 (yld_end (Hz h).1)
theorem J06 (S_:(Hc)→(Int)→Option (List Slot)) (hS_:∀ p1 p2 r,S_ p1 p2=some r→G86 p1 p2 r=some ()) (p1:Hc) (p2:Int) (r:List Slot) (h:S_ p1 p2=some r):Iter Tryz.prog 91 [.dptr (Hc.cs p1),.dptr [U8 p2]] (r.map (fun y:Slot=>[.agg [G1 y.G9,G1 y.Tier,U8 y.Half]])):=J05 p1 p2 r () (hS_ p1 p2 r h)

def G8a (p1:G6a) (ys_:List ((List G7)×(List G7))):Option Unit:=
 each (fun y23 i23 (s23:(List G7)×Nat) nx23=>
  need (decide (ys_[s23.2]? = some (s23.1,y23))) <|
  nx23 (y23,(s23.2+1)))
 (fun(s23:(List G7)×Nat)=>
  need (decide (s23.2=ys_.length)) (some ())) p1.States 0 ([],0)
theorem J07 (p1:G6a) (ys_:List ((List G7)×(List G7))) (q_:Unit) (h:G8a p1 ys_=some q_):Iter Tryz.prog 67 [.dptr [LS 1 (E0) p1.States,LS 1 (E1) p1.Water]] (ys_.map (fun y:(List G7)×(List G7)=>[E0 y.1,E0 y.2])):=by
 unfold G8a at h
 refine Iter_of Tryz.func67 O O ?_
 intro E hE hys
 refine Zc (fun K1 hK1=>R4 (Jp (u:=E0 ([]:List G7)) hE (Q4 4 O O) ?_ O O O O))
 refine Z3 ?_
 refine hK1 _ _ _ (Zc (fun K2 hK2=>R4 (Jp (u:=.dptr [LS 1 (E0) p1.States,LS 1 (E1) p1.Water]) hE (Gd G50 O O O) ?_ O O O O)))
 refine Jp (u:=LS 1 (E0) p1.States) hE (Gk G05 O O O) ?_ O O O O
 refine Ja1 hE (f:=(E0)) (xs:=p1.States) Qa O O (fun hm8=>?_) O O O
 refine Jp (u:=G1 0) hE (G6 O O) ?_ O O O O
 refine Z3 ?_
 refine hK2 _ _ _ (Gb6 ?_)
 obtain⟨b23,kx23,hb23,hkx23,h⟩:=Hy h
 refine He5 (fun i23 (s23:(List G7)×Nat)=>each b23 kx23 (List.drop i23 p1.States) i23 s23=some q_) (fun i23 s23=>[(0,.sc (.func (.yield E.lp) #[] #[])),(3,E0 s23.1),(7,LS 1 (E0) p1.States),(8,Ek p1.States.length),(9,Ek i23)]) (fun i23 s23=>[]) (fun i23 s23=>s23.2) (fun i23=>p1.States.length - i23) 0 ([],0) h ⟨(by repeat' constructor),G,rfl⟩ rfl ?_
 clear h
 intro i23 s23 hi23 K23 e23
 refine Zc (fun K24 hK24=>R4 (Jp (u:=BL (decide ((i23:Int) < (p1.States.length:Int)))) hE (J2 O O O) ?_ O O O O))
 refine Z3 ?_
 refine hK24 _ _ _ (Zc (fun K25 hK25=>H93 O (fun hb=>?_) (fun hb=>?_)))
 ·
  have hk23:=Jd hb
  obtain⟨y23,nx23,hy23,hn23,h⟩:=Hr hi23 hk23
  replace h:=Rq hb23 h
  refine H92 (hK25 _ _ _ (Zc (fun K26 hK26=>Gb6 (Zc (fun K27 hK27=>R4 (Jp (u:=.dptr [E0 y23]) hE (Gz (f:=(E0)) (xs:=p1.States) (y:=y23) O O O Qa hy23 O) ?_ O O O O))))))
  refine Jp (u:=E0 y23) hE (Gk Y3 O O O) ?_ O O O O
  refine Jp (u:=E0 y23) hE (Gb O O) ?_ O O O O
  refine Z3 ?_
  refine hK27 _ _ _ (Zc (fun K28 hK28=>Zc (fun K29 hK29=>R4 (Jp (u:=.sc (.func (.yield E.lp) #[] #[])) hE (G6 O O) ?_ O O O O))))
  refine Jp (u:=E0 s23.1) hE (G6 O O) ?_ O O O O
  refine Jp (u:=E0 y23) hE (G6 O O) ?_ O O O O
  obtain⟨ha30,h⟩:=Hz h
  refine Jbb (us:=[E0 s23.1,E0 y23]) hE O O ⟨O,O,O,O,G⟩ (yld_at (f:=(fun y:(List G7)×(List G7)=>[E0 y.1,E0 y.2])) (x:=(s23.1,y23)) hys ha30) ?_ O O O
  refine Jp (u:=BL false) hE (Zy (b:=true) O O) ?_ O O O O
  refine Z3 ?_
  refine hK29 _ _ _ (JI_condF O (H92 (hK28 _ _ _ (R4 (Jp (u:=E0 y23) hE (G6 O O) ?_ O O O O)))))
  refine Jp (u:=E0 y23) hE (Gb O O) ?_ O O O O
  refine Z3 ?_
  refine hK26 _ _ _ (R4 (Jp (u:=G1 ((i23+1:Nat):Int)) hE (Ht (Hn hk23 hm8) O O O) ?_ O O O O))
  refine Jp (u:=G1 ((i23+1:Nat):Int)) hE (G6 O O) ?_ O O O O
  refine Z3 ?_
  exact e23 _ _ (i23+1) (y23,(s23.2+1)) _ (app1 hn23 h) (by omega) ⟨(by repeat' constructor),G,rfl⟩ rfl
 ·
  have h:=app1 hkx23 (Hs hi23 (H9 hb))
  refine J45 (yld_end (Hz h).1)
theorem J08 (S_:(G6a)→Option (List ((List G7)×(List G7)))) (hS_:∀ p1 r,S_ p1=some r→G8a p1 r=some ()) (p1:G6a) (r:List ((List G7)×(List G7))) (h:S_ p1=some r):Iter Tryz.prog 67 [.dptr [LS 1 (E0) p1.States,LS 1 (E1) p1.Water]] (r.map (fun y:(List G7)×(List G7)=>[E0 y.1,E0 y.2])):=J07 p1 r () (hS_ p1 r h)

def G2f (x:Int):Option Bool:=
 some (decide (x≠x))
theorem H0b (x:Int) (r:Bool) (h:G2f x=some r):Pure Tryz.prog 107 [G1 x] (·=BL r):=by
 unfold G2f at h
 refine H4 [.tmp 2] Tryz.func107 O O (G5 fun K1 hK1=>G3 (JLh (BL false) (Gb O O) O (G8 (hK1 _ _ (G5 fun K2 hK2=>G3 (JLh (G1 x) (G6 O O) O (JLh (G1 x) (G6 O O) O (JLh (BL (decide (x≠x))) (H78 O O O) O (JLh (BL (decide (x≠x))) (Gb O O) O (G8 (hK2 _ _ (Gx (⟨[BL (decide (x≠x))],[],G,O,⟨⟨_,O,.conv (.same O)⟩,G⟩,O,congrArg (fun r:Bool=>(BL r:AV)) (Option.some.inj h)⟩)))))))))))))

def G0a (x:Int) (y:Int):Option Int:=
 bnd (G2f x) fun r3=>
 bnd (G2f y) fun r5=>
 bif r3 then
 (bif r5 then
  (some 0)
  else
  (some (-1)))
 else
 (bif r5 then
  (some 1)
  else
  (bif decide (x < y) then
   (some (-1))
   else
   (bif decide (y < x) then
    (some 1)
    else
    (some 0))))
theorem Gc3 (x:Int) (y:Int) (r:Int) (h:G0a x y=some r):Pure Tryz.prog 80 [G1 x,G1 y] (·=G1 r):=by
 unfold G0a at h
 refine H4 [.tmp 4] Tryz.func80 O O (G5 fun K1 hK1=>G3 (JLh (G1 0) (Gb O O) O (G8 (hK1 _ _ (G5 fun K2 hK2=>G3 (JLh (G1 x) (G6 O O) O ?_))))))
 obtain⟨r3,hr3,h⟩:=Gf h
 refine JLh (BL r3) (Gy (args:=[G1 x]) O (H0b x r3 hr3) J1b ⟨O,O,G⟩) O (JLh (BL r3) (Gb O O) O (G8 (hK2 _ _ (G5 fun K4 hK4=>G3 (JLh (G1 y) (G6 O O) O ?_)))))
 obtain⟨r5,hr5,h⟩:=Gf h
 refine JLh (BL r5) (Gy (args:=[G1 y]) O (H0b y r5 hr5) J1b ⟨O,O,G⟩) O (JLh (BL r5) (Gb O O) O (G8 (hK4 _ _ (G5 (fun K6 hK6=>G5 fun K7 hK7=>G3 (JLh (BL r3) (G6 O O) O (G8 (hK7 _ _ (Gn O (fun hb=>?_) (fun hb=>?_))))))))))
 ·
  replace h:=H1 hb h
  refine G5 (fun K8 hK8=>G5 fun K9 hK9=>G3 (JLh (BL r5) (G6 O O) O (G8 (hK9 _ _ (Gn O (fun hb=>?_) (fun hb=>?_))))))
  ·
   replace h:=H1 hb h
   refine G5 fun K10 hK10=>G3 (JLh (G1 0) (Gb O O) O (G8 (hK10 _ _ (Gx (⟨[G1 0],[],G,O,⟨⟨_,O,.conv (.same O)⟩,G⟩,O,congrArg (fun r:Int=>(G1 r:AV)) (Option.some.inj h)⟩)))))
  ·
   replace h:=Hv hb h
   refine Gp (hK8 _ _ (G5 fun K11 hK11=>G3 (JLh (G1 (-1)) (Gb O O) O (G8 (hK11 _ _ (Gx (⟨[G1 (-1)],[],G,O,⟨⟨_,O,.conv (.same O)⟩,G⟩,O,congrArg (fun r:Int=>(G1 r:AV)) (Option.some.inj h)⟩)))))))
 ·
  replace h:=Hv hb h
  refine Gp (hK6 _ _ (G5 (fun K12 hK12=>G5 fun K13 hK13=>G3 (JLh (BL r5) (G6 O O) O (G8 (hK13 _ _ (Gn O (fun hb=>?_) (fun hb=>?_))))))))
  ·
   replace h:=H1 hb h
   refine G5 fun K14 hK14=>G3 (JLh (G1 1) (Gb O O) O (G8 (hK14 _ _ (Gx (⟨[G1 1],[],G,O,⟨⟨_,O,.conv (.same O)⟩,G⟩,O,congrArg (fun r:Int=>(G1 r:AV)) (Option.some.inj h)⟩)))))
  ·
   replace h:=Hv hb h
   refine Gp (hK12 _ _ (G5 (fun K15 hK15=>G5 fun K16 hK16=>G3 (JLh (G1 x) (G6 O O) O (JLh (G1 y) (G6 O O) O (JLh (BL (decide (x < y))) (J2 O O O) O (G8 (hK16 _ _ (Gn O (fun hb=>?_) (fun hb=>?_))))))))))
   ·
    replace h:=H1 hb h
    refine G5 fun K17 hK17=>G3 (JLh (G1 (-1)) (Gb O O) O (G8 (hK17 _ _ (Gx (⟨[G1 (-1)],[],G,O,⟨⟨_,O,.conv (.same O)⟩,G⟩,O,congrArg (fun r:Int=>(G1 r:AV)) (Option.some.inj h)⟩)))))
   ·
    replace h:=Hv hb h
    refine Gp (hK15 _ _ (G5 (fun K18 hK18=>G5 fun K19 hK19=>G3 (JLh (G1 x) (G6 O O) O (JLh (G1 y) (G6 O O) O (JLh (BL (decide (y < x))) (Zj O O O) O (G8 (hK19 _ _ (Gn O (fun hb=>?_) (fun hb=>?_))))))))))
    ·
     replace h:=H1 hb h
     refine G5 fun K20 hK20=>G3 (JLh (G1 1) (Gb O O) O (G8 (hK20 _ _ (Gx (⟨[G1 1],[],G,O,⟨⟨_,O,.conv (.same O)⟩,G⟩,O,congrArg (fun r:Int=>(G1 r:AV)) (Option.some.inj h)⟩)))))
    ·
     replace h:=Hv hb h
     refine Gp (hK18 _ _ (G5 fun K21 hK21=>G3 (JLh (G1 0) (Gb O O) O (G8 (hK21 _ _ (Gx (⟨[G1 0],[],G,O,⟨⟨_,O,.conv (.same O)⟩,G⟩,O,congrArg (fun r:Int=>(G1 r:AV)) (Option.some.inj h)⟩)))))))

def H48 (vals:List Int):Option Int:=
 each (fun y19 i19 (s19:Unit) nx19=>
  bif decide (y19≠0) then
  (some y19)
  else
  (nx19 ()))
 (fun(s19:Unit)=>
  some 0) vals 0 ()
theorem J9e (vals:List Int) (r:Int) (h:H48 vals=some r):Pure Tryz.prog 79 [E1 vals] (·=G1 r):=by
 unfold H48 at h
 refine H4 [.tmp 2] Tryz.func79 O O (G5 fun K1 hK1=>G3 (JLh (G1 0) (Gb O O) O (G8 (hK1 _ _ (G5 fun K2 hK2=>G3 (JLh (G1 0) (Gb O O) O (G8 (hK2 _ _ (G5 (fun K3 hK3=>G5 fun K4 hK4=>G3 (JLh (E1 vals) (G6 O O) O (Hp (f:=G1) (xs:=vals) Gt O O (fun hm7=>?_) O O O))))))))))))
 refine JLh (G1 0) (G6 O O) O (G8 (hK4 _ _ (Gi ?_)))
 obtain⟨b19,kx19,hb19,hkx19,h⟩:=Hy h
 refine Ha (fun i19 (s19:Unit)=>each b19 kx19 (List.drop i19 vals) i19 s19=some r) (fun i19 s19=>[(3,G1 0),(6,E1 vals),(7,Ek vals.length),(8,Ek i19)]) (fun i19 s19=>[]) (fun i19=>vals.length - i19) 0 () h ⟨(by repeat' constructor),G,rfl⟩ ?_
 clear h
 intro i19 s19 hi19 K19 e19
 refine G5 fun K20 hK20=>G3 (JLh (BL (decide ((i19:Int) < (vals.length:Int)))) (J2 O O O) O (G8 (hK20 _ _ (G5 (fun K21 hK21=>Gn O (fun hb=>?_) (fun hb=>?_))))))
 ·
  have hk19:=Jd hb
  obtain⟨y19,nx19,hy19,hn19,h⟩:=Hr hi19 hk19
  replace h:=Rq hb19 h
  refine Gp (hK21 _ _ (G5 (fun K22 hK22=>Gi (G5 fun K23 hK23=>G3 (JLh (.dptr [G1 y19]) (Gz (f:=G1) (xs:=vals) (y:=y19) O O O Gt hy19 O) O (JLh (G1 y19) (Gk Gc O O O) O (JLh (G1 y19) (Gb O O) O (G8 (hK23 _ _ (G5 fun K24 hK24=>G3 (JLh (G1 y19) (G6 O O) O (JLh (G1 0) (G6 O O) O (JLh (BL (decide (y19≠0))) (H78 O O O) O (G8 (hK24 _ _ (Gn O (fun hb=>?_) (fun hb=>?_)))))))))))))))))
  ·
   replace h:=H1 hb h
   refine G5 fun K25 hK25=>G3 (JLh (G1 y19) (G6 O O) O (JLh (G1 y19) (Gb O O) O (G8 (hK25 _ _ (Gx (⟨[G1 y19],[],G,O,⟨⟨_,O,.conv (.same O)⟩,G⟩,O,congrArg (fun r:Int=>(G1 r:AV)) (Option.some.inj h)⟩))))))
  ·
   replace h:=Hv hb h
   refine Gp (hK22 _ _ (G3 (JLh (G1 ((i19+1:Nat):Int)) (Ht (Hn hk19 hm7) O O O) O (JLh (G1 ((i19+1:Nat):Int)) (G6 O O) O (G8 (e19 _ _ (i19+1) () (app1 hn19 h) (by omega) ⟨(by repeat' constructor),G,rfl⟩))))))
 ·
  have h:=app1 hkx19 (Hs hi19 (H9 hb))
  refine Hi (hK3 _ _ (G5 fun K26 hK26=>G3 (JLh (G1 0) (G6 O O) O (JLh (G1 0) (Gb O O) O (G8 (hK26 _ _ (Gx (⟨[G1 0],[],G,O,⟨⟨_,O,.conv (.same O)⟩,G⟩,O,congrArg (fun r:Int=>(G1 r:AV)) (Option.some.inj h)⟩))))))))

def G61 (a:Ga) (b:Ga):Option Int:=
 bnd (G0a a.Load b.Load) fun r3=>
 bnd (G0a a.Discharge b.Discharge) fun r4=>
 bnd (H48 [r3,r4]) fun r5=>
 some r5
theorem He1 (a:Ga) (b:Ga) (r:Int) (h:G61 a b=some r):Pure Tryz.prog 45 [.agg [G1 a.Load,G1 a.Discharge],.agg [G1 b.Load,G1 b.Discharge]] (·=G1 r):=by
 unfold G61 at h
 refine H4 [.tmp 4] Tryz.func45 O O (G5 fun K1 hK1=>G3 (JLh (.ptr 1131 0) (Jw (u:=.agg [G1 a.Load,G1 a.Discharge]) (cs:=[G1 a.Load,G1 a.Discharge]) 1131 O O O O O) O (JLh (.ptr 1132 0) (Jw (u:=.agg [G1 b.Load,G1 b.Discharge]) (cs:=[G1 b.Load,G1 b.Discharge]) 1132 O O O O O) O (JLh (G1 0) (Gb O O) O (G8 (hK1 _ _ (Gq [(2,.dptr [G1 a.Load,G1 a.Discharge]),(3,.ptr 1132 0)] [(1132,.box 84 [G1 b.Load,G1 b.Discharge])] 1131 rfl rfl rfl ⟨⟨_,rfl,.boxEq rfl rfl⟩,G⟩ rfl (by exact⟨.ptr,.conv (.same rfl),G⟩) (Gq [(2,.dptr [G1 a.Load,G1 a.Discharge]),(3,.dptr [G1 b.Load,G1 b.Discharge])] [] 1132 rfl rfl rfl G rfl (by exact⟨.conv (.same rfl),.ptr,G⟩) (G5 (fun K2 hK2=>?_))))))))))
 obtain⟨r3,hr3,h⟩:=Gf h
 obtain⟨r4,hr4,h⟩:=Gf h
 obtain⟨r5,hr5,h⟩:=Gf h
 refine Qt [] [0,0,0,0,0,0,0,0,0,0,0,0,0] [0,0,0,0,0,0,0,0,0,0,0,0,0] [[]] Jr (by kernel_rfl) rfl rfl ?_
 refine Gm (u:=.dptr [G1 a.Load,G1 a.Discharge]) O O ⟨Gs (Gd Rk O O O) O,G⟩ (Gm (u:=G1 a.Load) O O ⟨Gs (Gk Gc O O O) O,G⟩ (Gm (u:=.dptr [G1 b.Load,G1 b.Discharge]) O O ⟨Gs (Gd Rk O O O) O,G⟩ (Gm (u:=G1 b.Load) O O ⟨Gs (Gk Gc O O O) O,G⟩ (Gm (u:=G1 r3) O O ⟨Gs (Gy (args:=[G1 a.Load,G1 b.Load]) O (Gc3 a.Load b.Load r3 hr3) J60 ⟨O,O,O,O,G⟩) O,G⟩ (Gm (u:=.dptr [G1 a.Discharge]) O O ⟨Gs (Gd Rj O O O) O,G⟩ (Gm (u:=G1 a.Discharge) O O ⟨Gs (Gk Gc O O O) O,G⟩ (Gm (u:=.dptr [G1 b.Discharge]) O O ⟨Gs (Gd Rj O O O) O,G⟩ (Gm (u:=G1 b.Discharge) O O ⟨Gs (Gk Gc O O O) O,G⟩ (Gm (u:=G1 r4) O O ⟨Gs (Gy (args:=[G1 a.Discharge,G1 b.Discharge]) O (Gc3 a.Discharge b.Discharge r4 hr4) J60 ⟨O,O,O,O,G⟩) O,G⟩ (Gm (u:=E1 [r3,r4]) O O ⟨Gs (Hf (xs:=[G1 r3,G1 r4]) O ⟨O,O,O,O,G⟩ Gt Yn O O O O) O,G⟩ (Gm (u:=G1 r5) O O ⟨Gs (Gy (args:=[E1 [r3,r4]]) O (J9e [r3,r4] r5 hr5) Jee ⟨O,O,G⟩) O,G⟩ (Gm (u:=G1 r5) O O ⟨Gs (Gb O O) O,G⟩ (Zu ?_)))))))))))))
 refine hK2 _ _ (Gx (⟨[G1 r5],[],G,O,⟨⟨_,O,.conv (.same O)⟩,G⟩,O,congrArg (fun r:Int=>(G1 r:AV)) (Option.some.inj h)⟩))

def Y1 (a:G2) (b:G2):Option Int:=
 bnd (G61 a.Ga b.Ga) fun r3=>
 some r3
theorem Gea (a:G2) (b:G2) (r:Int) (h:Y1 a b=some r):Pure Tryz.prog 44 [.agg [G1 a.Ga.Load,G1 a.Ga.Discharge,G1 a.Whole,G1 a.Half],.agg (G2.cs b)] (·=G1 r):=by
 unfold Y1 at h
 refine H4 [.tmp 4] Tryz.func44 O O (G5 fun K1 hK1=>G3 (JLh (.ptr 1129 0) (Jw (u:=.agg [G1 a.Ga.Load,G1 a.Ga.Discharge,G1 a.Whole,G1 a.Half]) (cs:=[G1 a.Ga.Load,G1 a.Ga.Discharge,G1 a.Whole,G1 a.Half]) 1129 O O O O O) O (JLh (.ptr 1130 0) (Jw (u:=.agg (G2.cs b)) (cs:=[G1 b.Ga.Load,G1 b.Ga.Discharge,G1 b.Whole,G1 b.Half]) 1130 O O O O O) O (JLh (G1 0) (Gb O O) O (G8 (hK1 _ _ (Gq [(2,.dptr [G1 a.Ga.Load,G1 a.Ga.Discharge,G1 a.Whole,G1 a.Half]),(3,.ptr 1130 0)] [(1130,.box 86 [G1 b.Ga.Load,G1 b.Ga.Discharge,G1 b.Whole,G1 b.Half])] 1129 rfl rfl rfl ⟨⟨_,rfl,.boxEq rfl rfl⟩,G⟩ rfl (by exact⟨.ptr,.conv (.same rfl),G⟩) ?_)))))))
 refine Gq [(2,.dptr [G1 a.Ga.Load,G1 a.Ga.Discharge,G1 a.Whole,G1 a.Half]),(3,Eg b)] [] 1130 rfl rfl rfl G rfl (by exact⟨.conv (.same rfl),.ptr,G⟩) (G5 fun K2 hK2=>G3 (JLh (.dptr [G1 a.Ga.Load,G1 a.Ga.Discharge,G1 a.Whole,G1 a.Half]) (Gd Ja O O O) O (JLh (.agg [G1 a.Ga.Load,G1 a.Ga.Discharge]) (Gh Jc O O O) O (JLh (Eg b) (Gd Ja O O O) O (JLh (.agg [G1 b.Ga.Load,G1 b.Ga.Discharge]) (Gh Jc O O O) O ?_)))))
 obtain⟨r3,hr3,h⟩:=Gf h
 refine JLh (G1 r3) (Gy (args:=[.agg [G1 a.Ga.Load,G1 a.Ga.Discharge],.agg [G1 b.Ga.Load,G1 b.Ga.Discharge]]) O (He1 a.Ga b.Ga r3 hr3) Q06 ⟨O,O,O,O,G⟩) O (JLh (G1 r3) (Gb O O) O (G8 (hK2 _ _ (Gx (⟨[G1 r3],[],G,O,⟨⟨_,O,.conv (.same O)⟩,G⟩,O,congrArg (fun r:Int=>(G1 r:AV)) (Option.some.inj h)⟩)))))

def Yw (boxes:List Gr) (Rp:(List G2)→Prop):Option Prop:=
 each (fun y85 i85 (s85:(Gu Ga G2)) nx85=>
  jp (fun kj88=>
   bnd (some (Gu.get s85 (Ga.mk y85.Load y85.Discharge) (G2.mk (Ga.mk 0 0) 0 0))) fun v92=>
   jp (fun kj94=>
    bif decide (y85.Size=40) then
    (Rn (v92.Whole+1) fun v97=>
     kj94 (v97,v92.Half))
    else
    (bif decide (y85.Size=20) then
     (Rn (v92.Half+1) fun v99=>
      kj94 (v92.Whole,v99))
     else
     (kj88 (s85,v92.Whole,v92.Half)))) fun(j94:Int×Int)=>
   kj88 ((Gu.put s85 (Ga.mk y85.Load y85.Discharge) (G2.mk (Ga.mk y85.Load y85.Discharge) j94.1 j94.2)),j94.1,j94.2)) fun(j88:(Gu Ga G2)×Int×Int)=>
  nx85 j88.1)
 (fun(s85:(Gu Ga G2))=>
  J84 (fun(x111:Ga×G2) (s111:(List G2)) nx111=>
   need (decide ((s111.length+[x111.2].length)*32≤140737488355328∧s111.length+[x111.2].length≤maxLen)) <|
   nx111 (s111++[x111.2]))
  (fun(s111:(List G2))=>
   bnd (J6f (fun z0 z1=>Y1 z0 z1) s111) fun r118=>
   some (Rp r118)) (Gu.l s85) []) boxes 0 (Gu.empty:Gu Ga G2)
theorem J0b (boxes:List Gr) (Rp:(List G2)→Prop) (p:Prop) (h:Yw boxes Rp=some p) (hp:p):Pure Tryz.prog 15 [E2 boxes] (fun av=>∃ r,Rp r∧av=E4 r):=by
 unfold Yw at h
 refine H4 [.tmp 2] Tryz.func15 O O (G5 fun K1 hK1=>G3 (JLh (E4 ([]:List G2)) (Q4 4 O O) O (G8 (hK1 _ _ (G5 fun K2 hK2=>G3 (JLh (.mp 1063) (G2b 1063 Ga.kv G2.av O O) O (JLh (.mp 1063) (Gb O O) O (G8 (hK2 _ _ (G5 (fun K3 hK3=>G5 fun K4 hK4=>G3 (JLh (E2 boxes) (G6 O O) O (Hp (f:=Gr.av) (xs:=boxes) Jg O O (fun hm13=>?_) O O O)))))))))))))
 refine JLh (G1 0) (G6 O O) O (G8 (hK4 _ _ (Gi ?_)))
 obtain⟨b85,kx85,hb85,hkx85,h⟩:=Hy h
 refine Ha (fun i85 (s85:(Gu Ga G2))=>each b85 kx85 (List.drop i85 boxes) i85 s85=some p) (fun i85 s85=>[(3,.mp 1063),(12,E2 boxes),(13,Ek boxes.length),(14,Ek i85)]) (fun i85 s85=>[(1063,MP 121 Ga.kv G2.av s85)]) (fun i85=>boxes.length - i85) 0 (Gu.empty:Gu Ga G2) h ⟨(by repeat' constructor),⟨⟨_,rfl,.map⟩,G⟩,rfl⟩ ?_
 clear h
 intro i85 s85 hi85 K85 e85
 refine G5 fun K86 hK86=>G3 (JLh (BL (decide ((i85:Int) < (boxes.length:Int)))) (J2 O O O) O (G8 (hK86 _ _ (G5 (fun K87 hK87=>Gn O (fun hb=>?_) (fun hb=>?_))))))
 ·
  have hk85:=Jd hb
  obtain⟨y85,nx85,hy85,hn85,h⟩:=Hr hi85 hk85
  replace h:=Rq hb85 h
  refine Gp (hK87 _ _ ?_)
  obtain⟨kj88,hkj88,h⟩:=Q7 h
  refine Jm (fun j88:(Gu Ga G2)×Int×Int=>kj88 j88=some p) (fun j88=>[(3,.mp 1063),(12,E2 boxes),(13,Ek boxes.length),(14,Ek i85)]) (fun j88=>[(1063,MP 121 Ga.kv G2.av j88.1),(1060,.box 86 [G1 y85.Load,G1 y85.Discharge,G1 j88.2.1,G1 j88.2.2])]) (fun Kj88 ej88=>?_) ?_
  ·
   refine Gi (G5 fun K89 hK89=>G3 (JLh (Eh y85) (Gz (f:=Gr.av) (xs:=boxes) (y:=y85) O O O Jg hy85 O) O (JLh (.agg (Gr.cs y85)) (Gh Z1 O O O) O (JLh (.ptr 1058 0) (Hh 1058 9 Rg O O) O (Hg (u:=.junk) (H5 (u:=.agg (Gr.cs y85)) (ds:=(Gr.cs y85)) Z4 O O O O O O O O) (G8 (hK89 _ _ (Gq [(3,.mp 1063),(5,Eh y85),(12,E2 boxes),(13,Ek boxes.length),(14,Ek i85)] [(1063,MP 121 Ga.kv G2.av s85)] 1058 rfl rfl rfl ⟨⟨_,rfl,.map⟩,G⟩ rfl (by repeat' (first | exact .ptr | constructor)) ?_))))))))
   refine G5 fun K90 hK90=>G3 (JLh (.dptr ((Gr.cs y85).drop 5)) (Gd Yq O O O) O (JLh (G1 y85.Load) (Gk Gc O O O) O (JLh (.dptr ((Gr.cs y85).drop 6)) (Gd Zg O O O) O (JLh (G1 y85.Discharge) (Gk Gc O O O) O (JLh (.agg [G1 y85.Load,G1 y85.Discharge]) (Ji (cs:=[G1 y85.Load,G1 y85.Discharge]) [(0,1),(1,1)] [G1 0,G1 0] [.int .i64 0,.int .i64 0] Gc7 H2f ⟨.inl O,.inl O,G⟩ O O) O (JLh (.ptr 1059 0) (Hh 1059 2 Ys O O) O (Hg (u:=.junk) (H5 (u:=.agg [G1 y85.Load,G1 y85.Discharge]) (ds:=[G1 y85.Load,G1 y85.Discharge]) G64 O O O O O O O O) (G8 (hK90 _ _ ?_)))))))))
   refine Gq [(3,.mp 1063),(5,Eh y85),(6,.dptr [G1 y85.Load,G1 y85.Discharge]),(12,E2 boxes),(13,Ek boxes.length),(14,Ek i85)] [(1063,MP 121 Ga.kv G2.av s85)] 1059 rfl rfl rfl ⟨⟨_,rfl,.map⟩,G⟩ rfl (by repeat' (first | exact .ptr | constructor)) (G5 fun K91 hK91=>G3 (JLh (.mp 1063) (G6 O O) O (JLh (.agg [G1 y85.Load,G1 y85.Discharge]) (Gh Jc O O O) O ?_)))
   obtain⟨v92,hv92,h⟩:=Gf h
   refine JLh (.agg (G2.cs v92)) (((Option.some.inj hv92) ▸ G9d (av:=G2.av) (m:=s85) (a:=(Ga.mk y85.Load y85.Discharge)) (G2.mk (Ga.mk 0 0) 0 0) (.agg #[.int .i64 0,.int .i64 0,.int .i64 0,.int .i64 0]) O O O O J4b G94 Jc4 O)) O (JLh (.ptr 1060 0) (Hh 1060 4 Qi O O) O (Hg (u:=.junk) (H5 (u:=.agg (G2.cs v92)) (ds:=[G1 v92.Ga.Load,G1 v92.Ga.Discharge,G1 v92.Whole,G1 v92.Half]) Zm O O O O O O O O) (G8 (hK91 _ _ ?_))))
   refine G5 fun K93 hK93=>G3 (JLh (.agg [G1 y85.Load,G1 y85.Discharge]) (Gh Jc O O O) O (JLh (.ptr 1060 0) (Jf Ja O O) O (Hg (u:=.junk) (H5 (u:=.agg [G1 y85.Load,G1 y85.Discharge]) (ds:=[G1 y85.Load,G1 y85.Discharge,G1 v92.Whole,G1 v92.Half]) G64 O O O O O O O O) (G8 (hK93 _ _ ?_)))))
   obtain⟨kj94,hkj94,h⟩:=Q7 h
   refine Jm (fun j94:Int×Int=>kj94 j94=some p) (fun j94=>[(3,.mp 1063),(6,.dptr [G1 y85.Load,G1 y85.Discharge]),(7,.ptr 1060 0),(12,E2 boxes),(13,Ek boxes.length),(14,Ek i85)]) (fun j94=>[(1063,MP 121 Ga.kv G2.av s85),(1060,.box 86 [G1 y85.Load,G1 y85.Discharge,G1 j94.1,G1 j94.2])]) (fun Kj94 ej94=>?_) ?_
   ·
    refine G5 fun K95 hK95=>G3 (JLh (.dptr ((Gr.cs y85).drop 2)) (Gd G0d O O O) O (JLh (U8 y85.Size) (Gk J7 O O O) O (G8 (hK95 _ _ (Gi (G5 fun K96 hK96=>G3 (JLh (BL (decide (y85.Size=40))) (Qh O O O) O (JLh (BL (decide (y85.Size=40))) (Gb O O) O (G8 (hK96 _ _ (Gn O (fun hb=>?_) (fun hb=>?_))))))))))))
    ·
     replace h:=H1 hb h
     refine G3 (JLh (.ptr 1060 2) (Jf Zf O O) O (JLh (G1 v92.Whole) (Jv Gc O O O O) O ?_))
     obtain⟨v97,hv97,h⟩:=Hb h
     refine JLh (G1 v97) (Ht hv97 O O O) O (JLh (.ptr 1060 2) (Jf Zf O O) O (Hg (u:=.junk) (H5 (u:=G1 v97) (ds:=[G1 y85.Load,G1 y85.Discharge,G1 v97,G1 v92.Half]) Qv O O O O O O O O) (G8 (ej94 _ _ (v97,v92.Half) h ⟨(by repeat' constructor),⟨⟨_,rfl,.map⟩,⟨_,rfl,.boxL rfl (by repeat' constructor)⟩,G⟩,rfl⟩))))
    ·
     replace h:=Hv hb h
     refine G5 fun K98 hK98=>G3 (JLh (BL (decide (y85.Size=20))) (Qh O O O) O (JLh (BL (decide (y85.Size=20))) (Gb O O) O (G8 (hK98 _ _ (Gn O (fun hb=>?_) (fun hb=>?_))))))
     ·
      replace h:=H1 hb h
      refine G3 (JLh (.ptr 1060 3) (Jf Ze O O) O (JLh (G1 v92.Half) (Jv Gc O O O O) O ?_))
      obtain⟨v99,hv99,h⟩:=Hb h
      refine JLh (G1 v99) (Ht hv99 O O O) O (JLh (.ptr 1060 3) (Jf Ze O O) O (Hg (u:=.junk) (H5 (u:=G1 v99) (ds:=[G1 y85.Load,G1 y85.Discharge,G1 v92.Whole,G1 v99]) Qv O O O O O O O O) (G8 (ej94 _ _ (v92.Whole,v99) h ⟨(by repeat' constructor),⟨⟨_,rfl,.map⟩,⟨_,rfl,.boxL rfl (by repeat' constructor)⟩,G⟩,rfl⟩))))
     ·
      replace h:=Hv hb h
      refine Hi (ej88 _ _ (s85,v92.Whole,v92.Half) h ⟨(by repeat' constructor),⟨⟨_,rfl,.map⟩,⟨_,rfl,.boxL rfl (by repeat' constructor)⟩,G⟩,rfl⟩)
   ·intro j94 h
    replace h:=app1 hkj94 h
    refine G3 (JLh (.mp 1063) (G6 O O) O (JLh (.agg [G1 y85.Load,G1 y85.Discharge]) (Gh Jc O O O) O (JLh (.agg [G1 y85.Load,G1 y85.Discharge,G1 j94.1,G1 j94.2]) (G9e Qn O O O O) O (Hg (u:=.junk) (G90 (m:=s85) (a:=(Ga.mk y85.Load y85.Discharge)) (v:=(G2.mk (Ga.mk y85.Load y85.Discharge) j94.1 j94.2)) O O O O O O J4b G94) (G8 (ej88 _ _ ((Gu.put s85 (Ga.mk y85.Load y85.Discharge) (G2.mk (Ga.mk y85.Load y85.Discharge) j94.1 j94.2)),j94.1,j94.2) h ⟨(by repeat' constructor),⟨⟨_,rfl,.map⟩,⟨_,rfl,.boxL rfl (by repeat' constructor)⟩,G⟩,rfl⟩))))))
  ·intro j88 h
   replace h:=app1 hkj88 h
   refine G3 (JLh (G1 ((i85+1:Nat):Int)) (Ht (Hn hk85 hm13) O O O) O (JLh (G1 ((i85+1:Nat):Int)) (G6 O O) O (G8 (e85 _ _ (i85+1) j88.1 (app1 hn85 h) (by omega) ⟨(by repeat' constructor),⟨⟨_,rfl,.map⟩,G⟩,rfl⟩))))
 ·
  have h:=app1 hkx85 (Hs hi85 (H9 hb))
  refine Hi (hK3 _ _ (G5 fun K100 hK100=>G3 (JLh (.vec 1061 (([]:List G2).length) 4 (([]:List G2).length)) (Hc3 1061 86 4 O O O) O (G8 (hK100 _ _ (G5 (fun K101 hK101=>G5 fun K102 hK102=>G3 (JLh (.mp 1063) (G6 O O) O (JLh (.it 1064) (Hed 1064 (m:=s85) O O O O G94) O (G8 (hK102 _ _ (Gi ?_))))))))))))
  obtain⟨b111,kx111,hb111,hkx111,h⟩:=Hda h
  refine He7 (Gu.size s85) (fun i111 (s111:(List G2))=>MInv b111 kx111 (Gu.l s85) i111 s111) (fun i111 s111=>[(8,.vec 1061 s111.length 4 s111.length),(47,.it 1064)]) (fun i111 s111=>[(1063,MP 121 Ga.kv G2.av s85),(1061,.vec 86 4 s111.length (s111.map G2.av)),(1064,.iter 1063 (Gu.size s85) i111)]) [] (MInv.start h hp) ⟨⟨.same O,.same O,G⟩,⟨⟨_,O,.map⟩,⟨_,O,.vec⟩,⟨_,O,.iter O⟩,G⟩,O⟩ ?_
  clear h hp
  intro i111 s111 hi111 K111 e111
  refine G5 fun K112 hK112=>G3 (H0c O O O (J47 (m:=s85) O O O O) ?_)
  intro u_ L_ hn_
  rcases hn_ with ⟨q111,x111,he111,hs111,rfl,rfl⟩ | ⟨ha111,rfl,rfl⟩
  ·
   obtain⟨o111,h,ho1_111,ho2_111⟩:=hi111.step he111 hs111
   replace h:=J8a hb111 h
   refine JLh (BL true) (H0 O O O) O (G8 (hK112 _ _ (G5 (fun K113 hK113=>He8 O (Gp (hK113 _ _ (Gi (G5 fun K114 hK114=>G3 (JLh (.tup [.agg [G1 x111.1.Load,G1 x111.1.Discharge],.agg (G2.cs x111.2)]) (Hef (kv:=Ga.kv) (av:=G2.av) (m:=s85) (q:=q111) (seen:=i111) (e:=x111) O O O O he111) O (JLh (.agg (G2.cs x111.2)) (H0 O O O) O (JLh (.ptr 1062 0) (Hh 1062 4 Qi O O) O (Hg (u:=.junk) (H5 (u:=.agg (G2.cs x111.2)) (ds:=[G1 x111.2.Ga.Load,G1 x111.2.Ga.Discharge,G1 x111.2.Whole,G1 x111.2.Half]) Zm O O O O O O O O) (G8 (hK114 _ _ ?_))))))))))))))
   refine Gq [(8,.vec 1061 s111.length 4 s111.length),(10,Eg x111.2),(47,.it 1064)] [(1063,MP 121 Ga.kv G2.av s85),(1061,.vec 86 4 s111.length (s111.map G2.av)),(1064,.iter 1063 (Gu.size s85) (i111++[q111]))] 1062 rfl rfl rfl ⟨⟨_,rfl,.map⟩,⟨_,rfl,.vec⟩,⟨_,rfl,.iter rfl⟩,G⟩ rfl (by exact⟨.conv (.same rfl),.ptr,.conv (.same rfl),G⟩) (G3 (JLh (.vec 1061 s111.length 4 s111.length) (G6 O O) O (JLh (.agg (G2.cs x111.2)) (Gh Qn O O O) O (JLh (E4 [x111.2]) (Hf (xs:=[.agg (G2.cs x111.2)]) O ⟨O,O,G⟩ H7 Qi O O O O) O ?_))))
   obtain⟨ha115,h⟩:=Hz h
   refine JLh (.vec 1061 ((s111++[x111.2]).length) 4 ((s111++[x111.2]).length)) (Hc4 (f:=G2.av) (xs:=s111) (ys:=[x111.2]) (ver:=s111.length) (ver1:=(s111++[x111.2]).length) rfl rfl rfl rfl H7 G66 ha115 (fun _=>rfl) (.inl rfl) (by simp)) O (JLh (.vec 1061 ((s111++[x111.2]).length) 4 ((s111++[x111.2]).length)) (Gb O O) O (G8 (e111 _ _ (i111++[q111]) (s111++[x111.2]) (ho2_111 _ (Option.some.inj h).symm) (H7c (List.getElem?_eq_some_iff.1 he111).1 hs111) ⟨⟨.same O,.same O,G⟩,⟨⟨_,O,.map⟩,⟨_,O,.vec⟩,⟨_,O,.iter O⟩,G⟩,O⟩)))
  ·
   obtain⟨p_,h,hp⟩:=hi111.done ha111
   replace h:=app1 hkx111 h
   refine JLh (BL false) (H0 O O O) O (G8 (hK112 _ _ (G5 (fun K116 hK116=>H74 O (Hi (hK101 _ _ (G5 fun K117 hK117=>G3 (JLh (.vec 1061 s111.length 4 s111.length) (G6 O O) O ?_))))))))
   obtain⟨r118,hr118,h⟩:=Gf h
   refine JLh (.tup []) (A_sortM (f:=G2.av) (cmp:=(fun z0 z1=>Y1 z0 z1)) (xs:=s111) (r:=r118) G2.vs O J70 J1e (fun _=>O) (fun _=>O) (fun _=>cells1 O) J68 J67 O O O O O hr118 (fun z0 z1 q hq=>Gea z0 z1 q hq) O) O (G8 (hK117 _ _ (G5 fun K119 hK119=>G3 (JLh (.vec 1061 s111.length 4 s111.length) (G6 O O) O (JLh (.vec 1061 s111.length 4 s111.length) (Gb O O) O (G8 (hK119 _ _ (Hc1 [(2,E4 r118)] [] 1061 rfl rfl G rfl (by exact⟨.vec,G⟩) (Gx (⟨[E4 r118],[],G,O,⟨⟨_,O,.conv (.same O)⟩,G⟩,O,r118,Eq.mpr (Option.some.inj h) hp,O⟩))))))))))
theorem J0c (S_:(List Gr)→Option (List G2)) (hS_:∀ boxes r,S_ boxes=some r→∃ p:Prop,Yw boxes (fun r_=>r_=r)=some p∧p) (boxes:List Gr) (r:(List G2)) (h:S_ boxes=some r):Pure Tryz.prog 15 [E2 boxes] (·=E4 r):=by
 obtain⟨p,h1,h2⟩:=hS_ boxes r h
 exact(J0b boxes _ p h1 h2).monoP (fun av hh=>by obtain⟨r_,rfl,ha⟩:=hh; exact ha)


theorem He4 (boxes:List Gr) (Rp:(List G2)→Prop) (p:Prop) (h:Yw boxes Rp=some p) (hp:p):Qq Tryz.prog 15 [E2 boxes] [] (fun av L'=>∃ p:Nat,∃ r,Rp r∧av=.vec 1061 p 4 r.length∧L'=[(1061,.vec 86 4 p (r.map G2.av))]):=by
 unfold Yw at h
 refine Zw [] [.tmp 2] Tryz.func15 O O (H64 O) (G5 fun K1 hK1=>G3 (JLh (.vec 1057 (([]:List G2).length) 4 (([]:List G2).length)) (Hc3 1057 86 4 O O O) O (G8 (hK1 _ _ (G5 fun K2 hK2=>G3 (JLh (.mp 1063) (G2b 1063 Ga.kv G2.av O O) O (JLh (.mp 1063) (Gb O O) O (G8 (hK2 _ _ (G5 (fun K3 hK3=>G5 fun K4 hK4=>G3 (JLh (E2 boxes) (G6 O O) O (Hp (f:=Gr.av) (xs:=boxes) Jg O O (fun hm13=>?_) O O O)))))))))))))
 refine JLh (G1 0) (G6 O O) O (G8 (hK4 _ _ (Gi ?_)))
 obtain⟨b85,kx85,hb85,hkx85,h⟩:=Hy h
 refine Ha (fun i85 (s85:(Gu Ga G2))=>each b85 kx85 (List.drop i85 boxes) i85 s85=some p) (fun i85 s85=>[(3,.mp 1063),(12,E2 boxes),(13,Ek boxes.length),(14,Ek i85)]) (fun i85 s85=>[(1057,.vec 86 4 (([]:List G2).length) (([]:List G2).map G2.av)),(1063,MP 121 Ga.kv G2.av s85)]) (fun i85=>boxes.length - i85) 0 (Gu.empty:Gu Ga G2) h ⟨(by repeat' constructor),⟨⟨_,rfl,.vec⟩,⟨_,rfl,.map⟩,G⟩,rfl⟩ ?_
 clear h
 intro i85 s85 hi85 K85 e85
 refine G5 fun K86 hK86=>G3 (JLh (BL (decide ((i85:Int) < (boxes.length:Int)))) (J2 O O O) O (G8 (hK86 _ _ (G5 (fun K87 hK87=>Gn O (fun hb=>?_) (fun hb=>?_))))))
 ·
  have hk85:=Jd hb
  obtain⟨y85,nx85,hy85,hn85,h⟩:=Hr hi85 hk85
  replace h:=Rq hb85 h
  refine Gp (hK87 _ _ ?_)
  obtain⟨kj88,hkj88,h⟩:=Q7 h
  refine Jm (fun j88:(Gu Ga G2)×Int×Int=>kj88 j88=some p) (fun j88=>[(3,.mp 1063),(12,E2 boxes),(13,Ek boxes.length),(14,Ek i85)]) (fun j88=>[(1057,.vec 86 4 (([]:List G2).length) (([]:List G2).map G2.av)),(1063,MP 121 Ga.kv G2.av j88.1),(1060,.box 86 [G1 y85.Load,G1 y85.Discharge,G1 j88.2.1,G1 j88.2.2])]) (fun Kj88 ej88=>?_) ?_
  ·
   refine Gi (G5 fun K89 hK89=>G3 (JLh (Eh y85) (Gz (f:=Gr.av) (xs:=boxes) (y:=y85) O O O Jg hy85 O) O (JLh (.agg (Gr.cs y85)) (Gh Z1 O O O) O (JLh (.ptr 1058 0) (Hh 1058 9 Rg O O) O (Hg (u:=.junk) (H5 (u:=.agg (Gr.cs y85)) (ds:=(Gr.cs y85)) Z4 O O O O O O O O) (G8 (hK89 _ _ ?_)))))))
   refine Gq [(3,.mp 1063),(5,Eh y85),(12,E2 boxes),(13,Ek boxes.length),(14,Ek i85)] [(1057,.vec 86 4 (([]:List G2).length) (([]:List G2).map G2.av)),(1063,MP 121 Ga.kv G2.av s85)] 1058 rfl rfl rfl ⟨⟨_,rfl,.vec⟩,⟨_,rfl,.map⟩,G⟩ rfl (by repeat' (first | exact .ptr | constructor)) ?_
   refine G5 fun K90 hK90=>G3 (JLh (.dptr ((Gr.cs y85).drop 5)) (Gd Yq O O O) O (JLh (G1 y85.Load) (Gk Gc O O O) O (JLh (.dptr ((Gr.cs y85).drop 6)) (Gd Zg O O O) O (JLh (G1 y85.Discharge) (Gk Gc O O O) O (JLh (.agg [G1 y85.Load,G1 y85.Discharge]) (Ji (cs:=[G1 y85.Load,G1 y85.Discharge]) [(0,1),(1,1)] [G1 0,G1 0] [.int .i64 0,.int .i64 0] Gc7 H2f ⟨.inl O,.inl O,G⟩ O O) O (JLh (.ptr 1059 0) (Hh 1059 2 Ys O O) O (Hg (u:=.junk) (H5 (u:=.agg [G1 y85.Load,G1 y85.Discharge]) (ds:=[G1 y85.Load,G1 y85.Discharge]) G64 O O O O O O O O) (G8 (hK90 _ _ ?_)))))))))
   refine Gq [(3,.mp 1063),(5,Eh y85),(6,.dptr [G1 y85.Load,G1 y85.Discharge]),(12,E2 boxes),(13,Ek boxes.length),(14,Ek i85)] [(1057,.vec 86 4 (([]:List G2).length) (([]:List G2).map G2.av)),(1063,MP 121 Ga.kv G2.av s85)] 1059 rfl rfl rfl ⟨⟨_,rfl,.vec⟩,⟨_,rfl,.map⟩,G⟩ rfl (by repeat' (first | exact .ptr | constructor)) (G5 fun K91 hK91=>G3 (JLh (.mp 1063) (G6 O O) O (JLh (.agg [G1 y85.Load,G1 y85.Discharge]) (Gh Jc O O O) O ?_)))
   obtain⟨v92,hv92,h⟩:=Gf h
   refine JLh (.agg (G2.cs v92)) (((Option.some.inj hv92) ▸ G9d (av:=G2.av) (m:=s85) (a:=(Ga.mk y85.Load y85.Discharge)) (G2.mk (Ga.mk 0 0) 0 0) (.agg #[.int .i64 0,.int .i64 0,.int .i64 0,.int .i64 0]) O O O O J4b G94 Jc4 O)) O (JLh (.ptr 1060 0) (Hh 1060 4 Qi O O) O (Hg (u:=.junk) (H5 (u:=.agg (G2.cs v92)) (ds:=[G1 v92.Ga.Load,G1 v92.Ga.Discharge,G1 v92.Whole,G1 v92.Half]) Zm O O O O O O O O) (G8 (hK91 _ _ ?_))))
   refine G5 fun K93 hK93=>G3 (JLh (.agg [G1 y85.Load,G1 y85.Discharge]) (Gh Jc O O O) O (JLh (.ptr 1060 0) (Jf Ja O O) O (Hg (u:=.junk) (H5 (u:=.agg [G1 y85.Load,G1 y85.Discharge]) (ds:=[G1 y85.Load,G1 y85.Discharge,G1 v92.Whole,G1 v92.Half]) G64 O O O O O O O O) (G8 (hK93 _ _ ?_)))))
   obtain⟨kj94,hkj94,h⟩:=Q7 h
   refine Jm (fun j94:Int×Int=>kj94 j94=some p) (fun j94=>[(3,.mp 1063),(6,.dptr [G1 y85.Load,G1 y85.Discharge]),(7,.ptr 1060 0),(12,E2 boxes),(13,Ek boxes.length),(14,Ek i85)]) (fun j94=>[(1057,.vec 86 4 (([]:List G2).length) (([]:List G2).map G2.av)),(1063,MP 121 Ga.kv G2.av s85),(1060,.box 86 [G1 y85.Load,G1 y85.Discharge,G1 j94.1,G1 j94.2])]) (fun Kj94 ej94=>?_) ?_
   ·
    refine G5 fun K95 hK95=>G3 (JLh (.dptr ((Gr.cs y85).drop 2)) (Gd G0d O O O) O (JLh (U8 y85.Size) (Gk J7 O O O) O (G8 (hK95 _ _ (Gi (G5 fun K96 hK96=>G3 (JLh (BL (decide (y85.Size=40))) (Qh O O O) O (JLh (BL (decide (y85.Size=40))) (Gb O O) O (G8 (hK96 _ _ (Gn O (fun hb=>?_) (fun hb=>?_))))))))))))
    ·
     replace h:=H1 hb h
     refine G3 (JLh (.ptr 1060 2) (Jf Zf O O) O (JLh (G1 v92.Whole) (Jv Gc O O O O) O ?_))
     obtain⟨v97,hv97,h⟩:=Hb h
     refine JLh (G1 v97) (Ht hv97 O O O) O (JLh (.ptr 1060 2) (Jf Zf O O) O (Hg (u:=.junk) (H5 (u:=G1 v97) (ds:=[G1 y85.Load,G1 y85.Discharge,G1 v97,G1 v92.Half]) Qv O O O O O O O O) (G8 (ej94 _ _ (v97,v92.Half) h ⟨(by repeat' constructor),⟨⟨_,rfl,.vec⟩,⟨_,rfl,.map⟩,⟨_,rfl,.boxL rfl (by repeat' constructor)⟩,G⟩,rfl⟩))))
    ·
     replace h:=Hv hb h
     refine G5 fun K98 hK98=>G3 (JLh (BL (decide (y85.Size=20))) (Qh O O O) O (JLh (BL (decide (y85.Size=20))) (Gb O O) O (G8 (hK98 _ _ (Gn O (fun hb=>?_) (fun hb=>?_))))))
     ·
      replace h:=H1 hb h
      refine G3 (JLh (.ptr 1060 3) (Jf Ze O O) O (JLh (G1 v92.Half) (Jv Gc O O O O) O ?_))
      obtain⟨v99,hv99,h⟩:=Hb h
      refine JLh (G1 v99) (Ht hv99 O O O) O (JLh (.ptr 1060 3) (Jf Ze O O) O (Hg (u:=.junk) (H5 (u:=G1 v99) (ds:=[G1 y85.Load,G1 y85.Discharge,G1 v92.Whole,G1 v99]) Qv O O O O O O O O) (G8 (ej94 _ _ (v92.Whole,v99) h ⟨(by repeat' constructor),⟨⟨_,rfl,.vec⟩,⟨_,rfl,.map⟩,⟨_,rfl,.boxL rfl (by repeat' constructor)⟩,G⟩,rfl⟩))))
     ·
      replace h:=Hv hb h
      refine Hi (ej88 _ _ (s85,v92.Whole,v92.Half) h ⟨(by repeat' constructor),⟨⟨_,rfl,.vec⟩,⟨_,rfl,.map⟩,⟨_,rfl,.boxL rfl (by repeat' constructor)⟩,G⟩,rfl⟩)
   ·intro j94 h
    replace h:=app1 hkj94 h
    refine G3 (JLh (.mp 1063) (G6 O O) O (JLh (.agg [G1 y85.Load,G1 y85.Discharge]) (Gh Jc O O O) O (JLh (.agg [G1 y85.Load,G1 y85.Discharge,G1 j94.1,G1 j94.2]) (G9e Qn O O O O) O (Hg (u:=.junk) (G90 (m:=s85) (a:=(Ga.mk y85.Load y85.Discharge)) (v:=(G2.mk (Ga.mk y85.Load y85.Discharge) j94.1 j94.2)) O O O O O O J4b G94) (G8 (ej88 _ _ ((Gu.put s85 (Ga.mk y85.Load y85.Discharge) (G2.mk (Ga.mk y85.Load y85.Discharge) j94.1 j94.2)),j94.1,j94.2) h ⟨(by repeat' constructor),⟨⟨_,rfl,.vec⟩,⟨_,rfl,.map⟩,⟨_,rfl,.boxL rfl (by repeat' constructor)⟩,G⟩,rfl⟩))))))
  ·intro j88 h
   replace h:=app1 hkj88 h
   refine G3 (JLh (G1 ((i85+1:Nat):Int)) (Ht (Hn hk85 hm13) O O O) O (JLh (G1 ((i85+1:Nat):Int)) (G6 O O) O (G8 (e85 _ _ (i85+1) j88.1 (app1 hn85 h) (by omega) ⟨(by repeat' constructor),⟨⟨_,rfl,.vec⟩,⟨_,rfl,.map⟩,G⟩,rfl⟩))))
 ·
  have h:=app1 hkx85 (Hs hi85 (H9 hb))
  refine Hi (hK3 _ _ (G5 fun K100 hK100=>G3 (JLh (.vec 1061 (([]:List G2).length) 4 (([]:List G2).length)) (Hc3 1061 86 4 O O O) O (G8 (hK100 _ _ (G5 (fun K101 hK101=>G5 fun K102 hK102=>G3 (JLh (.mp 1063) (G6 O O) O (JLh (.it 1064) (Hed 1064 (m:=s85) O O O O G94) O (G8 (hK102 _ _ (Gi ?_))))))))))))
  obtain⟨b111,kx111,hb111,hkx111,h⟩:=Hda h
  refine He7 (Gu.size s85) (fun i111 (s111:(List G2))=>MInv b111 kx111 (Gu.l s85) i111 s111) (fun i111 s111=>[(8,.vec 1061 s111.length 4 s111.length),(47,.it 1064)]) (fun i111 s111=>[(1057,.vec 86 4 (([]:List G2).length) (([]:List G2).map G2.av)),(1063,MP 121 Ga.kv G2.av s85),(1061,.vec 86 4 s111.length (s111.map G2.av)),(1064,.iter 1063 (Gu.size s85) i111)]) [] (MInv.start h hp) ⟨⟨.same O,.same O,G⟩,⟨⟨_,O,.vec⟩,⟨_,O,.map⟩,⟨_,O,.vec⟩,⟨_,O,.iter O⟩,G⟩,O⟩ ?_
  clear h hp
  intro i111 s111 hi111 K111 e111
  refine G5 fun K112 hK112=>G3 (H0c O O O (J47 (m:=s85) O O O O) ?_)
  intro u_ L_ hn_
  rcases hn_ with ⟨q111,x111,he111,hs111,rfl,rfl⟩ | ⟨ha111,rfl,rfl⟩
  ·
   obtain⟨o111,h,ho1_111,ho2_111⟩:=hi111.step he111 hs111
   replace h:=J8a hb111 h
   refine JLh (BL true) (H0 O O O) O (G8 (hK112 _ _ (G5 (fun K113 hK113=>He8 O (Gp (hK113 _ _ (Gi (G5 fun K114 hK114=>G3 (JLh (.tup [.agg [G1 x111.1.Load,G1 x111.1.Discharge],.agg (G2.cs x111.2)]) (Hef (kv:=Ga.kv) (av:=G2.av) (m:=s85) (q:=q111) (seen:=i111) (e:=x111) O O O O he111) O (JLh (.agg (G2.cs x111.2)) (H0 O O O) O (JLh (.ptr 1062 0) (Hh 1062 4 Qi O O) O (Hg (u:=.junk) (H5 (u:=.agg (G2.cs x111.2)) (ds:=[G1 x111.2.Ga.Load,G1 x111.2.Ga.Discharge,G1 x111.2.Whole,G1 x111.2.Half]) Zm O O O O O O O O) (G8 (hK114 _ _ ?_))))))))))))))
   refine Gq [(8,.vec 1061 s111.length 4 s111.length),(10,Eg x111.2),(47,.it 1064)] [(1057,.vec 86 4 (([]:List G2).length) (([]:List G2).map G2.av)),(1063,MP 121 Ga.kv G2.av s85),(1061,.vec 86 4 s111.length (s111.map G2.av)),(1064,.iter 1063 (Gu.size s85) (i111++[q111]))] 1062 rfl rfl rfl ⟨⟨_,rfl,.vec⟩,⟨_,rfl,.map⟩,⟨_,rfl,.vec⟩,⟨_,rfl,.iter rfl⟩,G⟩ rfl (by exact⟨.conv (.same rfl),.ptr,.conv (.same rfl),G⟩) (G3 (JLh (.vec 1061 s111.length 4 s111.length) (G6 O O) O (JLh (.agg (G2.cs x111.2)) (Gh Qn O O O) O (JLh (E4 [x111.2]) (Hf (xs:=[.agg (G2.cs x111.2)]) O ⟨O,O,G⟩ H7 Qi O O O O) O ?_))))
   obtain⟨ha115,h⟩:=Hz h
   refine JLh (.vec 1061 ((s111++[x111.2]).length) 4 ((s111++[x111.2]).length)) (Hc4 (f:=G2.av) (xs:=s111) (ys:=[x111.2]) (ver:=s111.length) (ver1:=(s111++[x111.2]).length) rfl rfl rfl rfl H7 G66 ha115 (fun _=>rfl) (.inl rfl) (by simp)) O (JLh (.vec 1061 ((s111++[x111.2]).length) 4 ((s111++[x111.2]).length)) (Gb O O) O (G8 (e111 _ _ (i111++[q111]) (s111++[x111.2]) (ho2_111 _ (Option.some.inj h).symm) (H7c (List.getElem?_eq_some_iff.1 he111).1 hs111) ⟨⟨.same O,.same O,G⟩,⟨⟨_,O,.vec⟩,⟨_,O,.map⟩,⟨_,O,.vec⟩,⟨_,O,.iter O⟩,G⟩,O⟩)))
  ·
   obtain⟨p_,h,hp⟩:=hi111.done ha111
   replace h:=app1 hkx111 h
   refine JLh (BL false) (H0 O O O) O (G8 (hK112 _ _ (G5 (fun K116 hK116=>H74 O (Hi (hK101 _ _ (G5 fun K117 hK117=>G3 (JLh (.vec 1061 s111.length 4 s111.length) (G6 O O) O ?_))))))))
   obtain⟨r118,hr118,h⟩:=Gf h
   refine JLh (.tup []) (A_sortM (f:=G2.av) (cmp:=(fun z0 z1=>Y1 z0 z1)) (xs:=s111) (r:=r118) G2.vs O J70 J1e (fun _=>O) (fun _=>O) (fun _=>cells1 O) J68 J67 O O O O O hr118 (fun z0 z1 q hq=>Gea z0 z1 q hq) O) O (G8 (hK117 _ _ (G5 fun K119 hK119=>G3 (JLh (.vec 1061 s111.length 4 s111.length) (G6 O O) O (JLh (.vec 1061 s111.length 4 s111.length) (Gb O O) O (G8 (hK119 _ _ (H4b 2 O O (fun hn_=>Gx (⟨[.vec 1061 s111.length 4 s111.length],[(1061,.vec 86 4 s111.length (r118.map G2.av))],⟨⟨_,O,.vec⟩,G⟩,O,⟨⟨_,O,.conv (.same O)⟩,G⟩,s111.length,r118,Eq.mpr (Option.some.inj h) hp,congrArg (fun n_:Nat=>(.vec 1061 s111.length 4 n_:AV)) (hn_.trans (List.length_map _)),O⟩))))))))))
theorem He3 (S_:(List Gr)→Option (List G2)) (hS_:∀ boxes r,S_ boxes=some r→∃ p:Prop,Yw boxes (fun r_=>r_=r)=some p∧p) (boxes:List Gr) (r:(List G2)) (h:S_ boxes=some r):Qq Tryz.prog 15 [E2 boxes] [] (fun av L'=>∃ p:Nat,av=.vec 1061 p 4 r.length∧L'=[(1061,.vec 86 4 p (r.map G2.av))]):=by
 obtain⟨p,h1,h2⟩:=hS_ boxes r h
 exact(He4 boxes _ p h1 h2).mono (fun av L hh=>by obtain⟨q,r_,rfl,ha,hb⟩:=hh; exact⟨q,ha,hb⟩)
end
end Go.Proofs.YteoeccjboahfgaaGreat
