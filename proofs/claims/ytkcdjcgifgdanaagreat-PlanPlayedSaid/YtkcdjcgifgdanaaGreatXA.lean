/-
 Models of functions of the program,and that they return what the models say.
-/
import Derived.Test.YtkcdjcgifgdanaaGreatSortLay
import Derived.Test.YtkcdjcgifgdanaaGreatLent
set_option linter.unnecessarySimpa false
set_option maxRecDepth 100000
set_option maxHeartbeats 1000000
set_option linter.unusedVariables false
set_option linter.unusedSimpArgs false
namespace Go.Proofs.YtkcdjcgifgdanaaGreat
open Go.RowKit
noncomputable section
abbrev Ej:=Tryz.prog
structure Hb where
 n:Int
 low:Int
 high:Int
 deriving DecidableEq,Inhabited
def Hb.cs (x:Hb):List AV:=[G0 x.n,G0 x.low,G0 x.high]
def Hb.av (x:Hb):AV:=.agg x.cs
structure G4 where
 Bay:Int
 Row:Int
 Deck:Bool
 Tiers:Int
 Height:Int
 Kilos20:Int
 Kilos40:Int
 Lash:Int
 Plugs:List Int
 X:Int
 Y:Int
 Z:Int
 deriving DecidableEq,Inhabited
def G4.cs (x:G4):List AV:=[G0 x.Bay,G0 x.Row,BL x.Deck,G0 x.Tiers,G0 x.Height,G0 x.Kilos20,G0 x.Kilos40,G0 x.Lash,E1 x.Plugs,G0 x.X,G0 x.Y,G0 x.Z]
def G4.av (x:G4):AV:=.agg x.cs
abbrev Ef (x:G4):AV:=.dptr (G4.cs x)
abbrev E3:=LS 12 G4.av
structure G9 where
 Bay:Int
 Rows:List Int
 deriving DecidableEq,Inhabited
def G9.cs (x:G9):List AV:=[G0 x.Bay,E1 x.Rows]
def G9.av (x:G9):AV:=.agg x.cs
abbrev E4:=LS 2 G9.av
structure Light where
 Kilos:Int
 X:Int
 Y:Int
 Z:Int
 deriving DecidableEq,Inhabited
def Light.cs (x:Light):List AV:=[G0 x.Kilos,G0 x.X,G0 x.Y,G0 x.Z]
def Light.av (x:Light):AV:=.agg x.cs
structure Row where
 Draught:Int
 Kilos:Int
 Buoy:Int
 Metacentre:Int
 Turn:Int
 deriving DecidableEq,Inhabited
def Row.cs (x:Row):List AV:=[G0 x.Draught,G0 x.Kilos,G0 x.Buoy,G0 x.Metacentre,G0 x.Turn]
def Row.av (x:Row):AV:=.agg x.cs
abbrev E5:=LS 5 Row.av
structure Frame where
 X:Int
 Light:Int
 Share:Int
 Shear:Int
 Bend:Int
 deriving DecidableEq,Inhabited
def Frame.cs (x:Frame):List AV:=[G0 x.X,G0 x.Light,G0 x.Share,G0 x.Shear,G0 x.Bend]
def Frame.av (x:Frame):AV:=.agg x.cs
abbrev E6:=LS 5 Frame.av
structure Gj where
 Kilos:Int
 X:Int
 Y:Int
 Z:Int
 Surface:Int
 Steps:List Int
 deriving DecidableEq,Inhabited
def Gj.cs (x:Gj):List AV:=[G0 x.Kilos,G0 x.X,G0 x.Y,G0 x.Z,G0 x.Surface,E1 x.Steps]
def Gj.av (x:Gj):AV:=.agg x.cs
abbrev E7:=LS 6 Gj.av
structure G2 where
 Tolerance:Int
 Trim:Int
 List_:Int
 Stability:Int
 deriving DecidableEq,Inhabited
def G2.cs (x:G2):List AV:=[G0 x.Tolerance,G0 x.Trim,G0 x.List_,G0 x.Stability]
def G2.av (x:G2):AV:=.agg x.cs
structure Gw where
 Columns:List G4
 Covers:List G9
 Light:Light
 Rows:List Row
 Frames:List Frame
 Tanks:List Gj
 G2:G2
 deriving DecidableEq,Inhabited
def Gw.cs (x:Gw):List AV:=[E3 x.Columns,E4 x.Covers,G0 x.Light.Kilos,G0 x.Light.X,G0 x.Light.Y,G0 x.Light.Z,E5 x.Rows,E6 x.Frames,E7 x.Tanks,G0 x.G2.Tolerance,G0 x.G2.Trim,G0 x.G2.List_,G0 x.G2.Stability]
def Gw.av (x:Gw):AV:=.agg x.cs
abbrev Ec (x:Gw):AV:=.dptr (Gw.cs x)
structure H8 where
 e0:Int
 e1:Int
 e2:Int
 deriving DecidableEq,Inhabited
def H8.cs (x:H8):List AV:=[G0 x.e0,G0 x.e1,G0 x.e2]
def H8.av (x:H8):AV:=.agg x.cs
def H8.ks (x:H8):List Value:=[.int .i64 x.e0,.int .i64 x.e1,.int .i64 x.e2]
def H8.kv (x:H8):Value:=.agg x.ks.toArray
structure Slot where
 G4:Int
 Tier:Int
 Half:Int
 deriving DecidableEq,Inhabited
def Slot.cs (x:Slot):List AV:=[G0 x.G4,G0 x.Tier,U8 x.Half]
def Slot.av (x:Slot):AV:=.agg x.cs
abbrev Eg (x:Slot):AV:=.dptr (Slot.cs x)
abbrev E8:=LS 3 Slot.av
structure Stowed where
 Gd:Int
 Slot:Slot
 deriving DecidableEq,Inhabited
def Stowed.cs (x:Stowed):List AV:=[G0 x.Gd,G0 x.Slot.G4,G0 x.Slot.Tier,U8 x.Slot.Half]
def Stowed.av (x:Stowed):AV:=.agg x.cs
abbrev Ed (x:Stowed):AV:=.dptr (Stowed.cs x)
abbrev E0:=LS 4 Stowed.av
structure G2f where
 States:List (List Stowed)
 Water:List (List Int)
 deriving DecidableEq,Inhabited
def G2f.cs (x:G2f):List AV:=[LS 1 (E0) x.States,LS 1 (E1) x.Water]
def G2f.av (x:G2f):AV:=.agg x.cs
namespace XAF
theorem tq_107 (a b:H8):Hb5 Ej 4 107 [.int .i64 a.e0,.int .i64 a.e1,.int .i64 a.e2] [.int .i64 b.e0,.int .i64 b.e1,.int .i64 b.e2]=some (decide (a=b)):=by
 refine(show _=some ((a.e0==b.e0)&&((a.e1==b.e1)&&((a.e2==b.e2)&&true))) by kernel_rfl).trans (congrArg some ?_)
 rw [Bool.eq_iff_iff]
 simp only [Bool.and_eq_true,beq_iff_eq,decide_eq_true_eq,Bool.and_true]
 constructor
 ·intro h; obtain⟨_,_,_⟩:=a; obtain⟨_,_,_⟩:=b; simp_all
 ·intro h; subst h; simp
theorem Q24:Ga9 Ej 141 3=true:=by kernel_rfl
theorem G44:Ga9 Ej 63 12=true:=by kernel_rfl
theorem H12:Ga9 Ej 67 2=true:=by kernel_rfl
theorem J6d:arrB Ej 107 3 1=true:=by kernel_rfl
theorem Q0f:Hf Ej 40=true:=by kernel_rfl
theorem J5d:Hf Ej 71=true:=by kernel_rfl
theorem J5c:Hf Ej 75=true:=by kernel_rfl
theorem H53:Jk Ej 141 0 0=true:=by kernel_rfl
theorem J51:Jk Ej 141 1 1=true:=by kernel_rfl
theorem J50:Jk Ej 141 2 2=true:=by kernel_rfl
theorem J2:Jk Ej 35 0 0=true:=by kernel_rfl
theorem Q5:Jk Ej 35 1 1=true:=by kernel_rfl
theorem Z8:Jk Ej 41 0 0=true:=by kernel_rfl
theorem Zz:Jk Ej 63 0 0=true:=by kernel_rfl
theorem Zy:Jk Ej 63 1 1=true:=by kernel_rfl
theorem H52:Jk Ej 63 10 10=true:=by kernel_rfl
theorem Gd0:Jk Ej 63 11 11=true:=by kernel_rfl
theorem Rf:Jk Ej 63 2 2=true:=by kernel_rfl
theorem G9d:Jk Ej 63 3 3=true:=by kernel_rfl
theorem H99:Jk Ej 63 4 4=true:=by kernel_rfl
theorem Jb6:Jk Ej 63 5 5=true:=by kernel_rfl
theorem Jb5:Jk Ej 63 6 6=true:=by kernel_rfl
theorem Jb4:Jk Ej 63 7 7=true:=by kernel_rfl
theorem H98:Jk Ej 63 8 8=true:=by kernel_rfl
theorem H97:Jk Ej 63 9 9=true:=by kernel_rfl
theorem G54:Jk Ej 67 0 0=true:=by kernel_rfl
theorem G53:Jk Ej 67 1 1=true:=by kernel_rfl
theorem G68:G78 Ej 106 107 3=true:=by kernel_rfl
theorem Qb:Ej.follows .mixedOrders=true:=by kernel_rfl
theorem Re:placesOf Ej 141=some [(0,1),(1,1),(2,1)]:=by kernel_rfl
theorem Gc2:placesOf Ej 78=some [(0,1),(1,1),(2,1)]:=by kernel_rfl
theorem Ja:R7 Ej 25=true:=by kernel_rfl
theorem Qo:R7 Ej 26=true:=by kernel_rfl
theorem Gc:R7 Ej 3=true:=by kernel_rfl
theorem Y2:R7 Ej 38=true:=by kernel_rfl
theorem Q9:R7 Ej 4=true:=by kernel_rfl
theorem Q2:R7 Ej 47=true:=by kernel_rfl
theorem J6:R7 Ej 5=true:=by kernel_rfl
theorem Q1:R7 Ej 50=true:=by kernel_rfl
theorem Jd6:R3 Ej 141 3=true:=by kernel_rfl
theorem Gcf:R3 Ej 63 12=true:=by kernel_rfl
theorem J49:R3 Ej 67 2=true:=by kernel_rfl
theorem Gc0:sliceB Ej 139 141 3=true:=by kernel_rfl
theorem G41:sliceB Ej 146 5 1=true:=by kernel_rfl
theorem J5:sliceB Ej 25 63 12=true:=by kernel_rfl
theorem Q8:sliceB Ej 26 67 2=true:=by kernel_rfl
theorem J9:sliceB Ej 38 47 1=true:=by kernel_rfl
theorem Gv:sliceB Ej 50 3 1=true:=by kernel_rfl
theorem J12:(Ej.info? 107).bind (fun i=>i.zero.map Value.cells)=some (List.toArray [.int .i64 0,.int .i64 0,.int .i64 0]):=by kernel_rfl
theorem Yo:(Ej.info? 141).bind (fun i=>i.zero.map Value.cells)=some (List.toArray [.int .i64 0,.int .i64 0,.int .i64 0]):=by kernel_rfl
theorem Gce:(Ej.info? 78).bind (fun i=>i.zero.map Value.cells)=some (List.toArray [.int .i64 0,.int .i64 0,.int .u8 0]):=by kernel_rfl
theorem H22:R6 Ej 141 3=true:=by kernel_rfl
theorem J47:R6 Ej 5 1=true:=by kernel_rfl
theorem G17:R6 Ej 63 12=true:=by kernel_rfl
theorem Ga5:R6 Ej 67 2=true:=by kernel_rfl
theorem H21:(Ej.info? 3).bind (·.zero)=some (.int .i64 0):=by kernel_rfl
theorem Hf0:Gf1 Ej 107 H8.kv:=Gf1.of_eq H8.ks (by kernel_rfl) (fun a b h=>by simp only [H8.ks,List.cons.injEq,Value.int.injEq,Value.bool.injEq,Value.string.injEq,true_and,and_true] at h; obtain⟨_,_,_⟩:=a; obtain⟨_,_,_⟩:=b; simp_all) 4 (by decide) (fun a b=>tq_107 a b) (fun a=>by kernel_rfl) (fun a=>by simp [Instr.sameBits,H8.ks])
end XAF
open XAF

def G13 (l:List Hb):Option Bool:=
 each (fun y18 i18 (s18:Unit) nx18=>
  bif ((decide (y18.n < y18.low))||(decide (y18.high < y18.n))) then
  (some false)
  else
  (nx18 ()))
 (fun(s18:Unit)=>
  some true) l 0 ()
theorem H1b (l:List Hb) (r:Bool) (h:G13 l=some r):Pure Ej 71 [LS 3 Hb.av l] (·=BL r):=by
 unfold G13 at h
 refine H1 [.tmp 2] Tryz.func71 O O (Jr fun hK1=>(Ru (BL false) O (G7 (hK1 (Js fun hK2=>Jr fun hK3=>(Ru (LS 3 Hb.av l) O (JLl Gc0 O O O fun hm6=>(Ru (G0 0) O (G7 (hK3 (Gq ?_)))))))))))
 obtain⟨b18,kx18,hb18,hkx18,h⟩:=Hx h
 refine Hg (fun i18 (s18:Unit)=>each b18 kx18 (List.drop i18 l) i18 s18=some r) (fun i18 s18=>[(5,LS 3 Hb.av l),(6,Ei l.length),(7,Ei i18)]) (fun i18 s18=>[]) (fun i18=>l.length - i18) 0 () h ⟨⟨.same O,.same O,.same O,G⟩,G,O⟩ ?_
 clear h
 intro i18 s18 hi18 K18 e18
 refine Jr fun hK19=>(JLh (BL (decide ((i18:Int) < (l.length:Int)))) (Hz O O O) O (G7 (hK19 (Js fun hK20=>Gk O (fun hb=>?_) (fun hb=>?_)))))
 ·
  have hk18:=Jb hb
  obtain⟨y18,nx18,hy18,hn18,h⟩:=Ho hi18 hk18
  replace h:=Rw hb18 h
  refine Gn (hK20 (Js fun hK21=>Gq (Jr fun hK22=>(JLh (.dptr [G0 y18.n,G0 y18.low,G0 y18.high]) (H4 (f:=Hb.av) (xs:=l) (y:=y18) O O O Gc0 hy18 O) O (JLh (.agg [G0 y18.n,G0 y18.low,G0 y18.high]) (Gi Q24 O O O) O (JLh (.ptr 1139 0) (Hn 1139 3 H22 O O) O (Hs (u:=.junk) (Ha (u:=.agg [G0 y18.n,G0 y18.low,G0 y18.high]) (ds:=[G0 y18.n,G0 y18.low,G0 y18.high]) Jd6 O O O O O O O O) (G7 (hK22 (Gp [(4,.dptr [G0 y18.n,G0 y18.low,G0 y18.high]),(5,LS 3 Hb.av l),(6,Ei l.length),(7,Ei i18)] [] 1139 rfl rfl rfl G rfl (by repeat' (first | exact .ptr | constructor)) ?_))))))))))
  refine Jr fun hK23=>(JLh (.dptr [G0 y18.n,G0 y18.low,G0 y18.high]) (Ga H53 O O O) O (JLh (G0 y18.n) (Gf Gc O O O) O (JLh (.dptr [G0 y18.low,G0 y18.high]) (Ga J51 O O O) O (JLh (G0 y18.low) (Gf Gc O O O) O (JLh (BL (decide (y18.n < y18.low))) (Hz O O O) O (Ru (BL (decide (y18.n < y18.low))) O (JLo (.dptr [G0 y18.n,G0 y18.low,G0 y18.high]) [] O .scf G (fun hc=>Ga H53 O O O) O (JLo (G0 y18.n) [17] O .scf ⟨Ua,G⟩ (fun hc=>Gf Gc O O O) O (JLo (.dptr [G0 y18.high]) [] O .scf G (fun hc=>Ga J50 O O O) O (JLo (G0 y18.high) [19] O .scf ⟨Ua,G⟩ (fun hc=>Gf Gc O O O) O (JLo (BL (decide (y18.high < y18.n))) [18,20] O .scf ⟨Ua,Ua,G⟩ (fun hc=>G76 O O O) O (JLh (BL ((decide (y18.n < y18.low))||(decide (y18.high < y18.n)))) (G09 O O O O) O (G7 (hK23 ?_))))))))))))))
  refine JCc O h (fun h hb=>?_) (fun h hb=>?_)
  ·
   refine Jr fun hK24=>(Ru (BL false) O (G7 (hK24 (Gr (fin1 BL h)))))
  ·
   refine Gn (hK21 (G3 (JLh (G0 ((i18+1:Nat):Int)) (Hu (He hk18 hm6) O O O) O (Ru (G0 ((i18+1:Nat):Int)) O (G7 (e18 _ _ (i18+1) () (app1 hn18 h) (by omega) ⟨⟨.same rfl,.same rfl,.same rfl,G⟩,G,rfl⟩))))))
 ·
  have h:=app1 hkx18 (Hp hi18 (H7 hb))
  refine Hr (hK2 (Jr fun hK25=>(Ru (BL true) O (G7 (hK25 (Gr (fin1 BL h)))))))

def G4b (c:G4):Option Bool:=
 each (fun y27 i27 (s27:Unit) nx27=>
  wrp (c.Tiers - 1) fun v33=>
  bnd (G13 [(Hb.mk y27 0 v33)]) fun r34=>
  bnd (bif ((!(!r34))&&(decide (0 < (i27:Int)))) then some (IntKind.i64.wrap ((i27:Int) - 1)) else some 0) fun v35=>
  bnd (bif ((!(!r34))&&(decide (0 < (i27:Int)))) then Rx c.Plugs v35 some else some default) fun y36=>
  bif ((!r34)||((decide (0 < (i27:Int)))&&(decide (y27≤y36)))) then
  (some false)
  else
  (nx27 ()))
 (fun(s27:Unit)=>
  bnd (G13 [(Hb.mk c.Bay 0 39),(Hb.mk c.Row 0 30),(Hb.mk c.Tiers 1 10),(Hb.mk c.Height 0 40000),(Hb.mk c.Kilos20 0 500000000),(Hb.mk c.Kilos40 0 500000000),(Hb.mk c.Lash 0 1000000000000),(Hb.mk c.X (-500000) 500000),(Hb.mk c.Y (-500000) 500000),(Hb.mk c.Z (-500000) 500000)]) fun r39=>
  some r39) c.Plugs 0 ()
theorem J9b (c:G4) (r:Bool) (h:G4b c=some r):Pure Ej 40 [.agg (G4.cs c)] (·=BL r):=by
 unfold G4b at h
 refine H1 [.tmp 2] Tryz.func40 O O (Jr fun hK1=>(JLh (.ptr 1104 0) (Jm (cs:=(G4.cs c)) 1104 O O O O O) O (Ru (BL false) O (G7 (hK1 (Gp [(1,Ef c)] [] 1104 rfl rfl rfl G rfl (by exact⟨.ptr,G⟩) (Jr fun hK2=>(Ru (.fn 71 []) O (G7 (hK2 (Js fun hK3=>Jr fun hK4=>(JLh (.dptr [E1 c.Plugs,G0 c.X,G0 c.Y,G0 c.Z]) (Ga H98 O O O) O (JLh (E1 c.Plugs) (Gf Q1 O O O) O (JLl Gv O O O fun hm8=>(Ru (G0 0) O (G7 (hK4 (Gq ?_))))))))))))))))))
 obtain⟨b27,kx27,hb27,hkx27,h⟩:=Hx h
 refine Hg (fun i27 (s27:Unit)=>each b27 kx27 (List.drop i27 c.Plugs) i27 s27=some r) (fun i27 s27=>[(1,Ef c),(3,.fn 71 []),(7,E1 c.Plugs),(8,Ei c.Plugs.length),(9,Ei i27)]) (fun i27 s27=>[]) (fun i27=>c.Plugs.length - i27) 0 () h ⟨(by repeat' constructor),G,rfl⟩ ?_
 clear h
 intro i27 s27 hi27 K27 e27
 refine Jr fun hK28=>(JLh (BL (decide ((i27:Int) < (c.Plugs.length:Int)))) (Hz O O O) O (G7 (hK28 (Js fun hK29=>Gk O (fun hb=>?_) (fun hb=>?_)))))
 ·
  have hk27:=Jb hb
  obtain⟨y27,nx27,hy27,hn27,h⟩:=Ho hi27 hk27
  replace h:=Rw hb27 h
  refine Gn (hK29 (Js fun hK30=>Gq (Jr fun hK31=>(Ru (Ei i27) O (JLh (.dptr [G0 y27]) (H4 (f:=G0) (xs:=c.Plugs) (y:=y27) O O O Gv hy27 O) O (JLh (G0 y27) (Gf Gc O O O) O (Ru (Ei i27) O (Ru (G0 y27) O (G7 (hK31 (Jr fun hK32=>(Ru (.fn 71 []) O (Ru (G0 y27) O (JLh (.dptr [G0 c.Tiers,G0 c.Height,G0 c.Kilos20,G0 c.Kilos40,G0 c.Lash,E1 c.Plugs,G0 c.X,G0 c.Y,G0 c.Z]) (Ga G9d O O O) O (JLh (G0 c.Tiers) (Gf Gc O O O) O ?_)))))))))))))))
  obtain⟨v33,hv33,h⟩:=wrp_out h
  refine JLh (G0 v33) (Gea hv33 O O O) O (JLh (.agg [G0 y27,G0 0,G0 v33]) (J8 (cs:=[G0 y27,G0 0,G0 v33]) [(0,1),(1,1),(2,1)] [G0 0,G0 0,G0 0] [.int .i64 0,.int .i64 0,.int .i64 0] Re Yo ⟨.inl O,.inl O,.inl O,G⟩ O O) O (JLh (LS 3 Hb.av [(Hb.mk y27 0 v33)]) (H9 (xs:=[.agg [G0 y27,G0 0,G0 v33]]) O ⟨O,O,G⟩ Gc0 H22 O O O O) O ?_))
  obtain⟨r34,hr34,h⟩:=Ge h
  refine JLh (BL r34) (G15 (args:=[LS 3 Hb.av [(Hb.mk y27 0 v33)]]) (caps:=[]) O O (H1b [(Hb.mk y27 0 v33)] r34 hr34) J5d ⟨O,O,G⟩ O) O (JLh (BL (!r34)) (Rj (b:=r34) O O) O (Ru (BL (!r34)) O (JLo (Ei i27) [] O .scf G (fun hc=>G6 O O) O (JLo (BL (decide (0 < (i27:Int)))) [24] O .scf ⟨Ua,G⟩ (fun hc=>G76 O O O) O (JLo (BL (decide (0 < (i27:Int)))) [25] O .scf ⟨Ua,G⟩ (fun hc=>G6 O O) O (JLo (G0 y27) [] O .optt G (fun hc=>G6 O O) O (JLo (.dptr [E1 c.Plugs,G0 c.X,G0 c.Y,G0 c.Z]) [] O .optt G (fun hc=>Ga H98 O O O) O (JLo (E1 c.Plugs) [28] O .optt ⟨Ua,G⟩ (fun hc=>Gf Q1 O O O) O (JLo (Ei i27) [] O .optt G (fun hc=>G6 O O) O ?_)))))))))
  obtain⟨v35,hv35,h⟩:=Ge h
  refine JLo (G0 v35) [30] O .optt ⟨Ua,G⟩ (fun hc=>Gea (Option.some.inj (H2 hc hv35)) O O O) O ?_
  obtain⟨y36,hy36,h⟩:=Ge h
  refine JLo (.dptr [G0 y36]) [29,31] O .optt ⟨Ua,Ua,G⟩ (fun hc=>(match Qq (H2 hc hy36) with | ⟨_,hm_,hy_⟩=>H4 (f:=G0) (xs:=c.Plugs) (y:=y36) O O O Gv hy_ hm_)) O (JLo (G0 y36) [32] O .optt ⟨Ua,G⟩ (fun hc=>Gf Gc O O O) O (JLo (BL (decide (y27≤y36))) [27,33] O .optt ⟨Ua,Ua,G⟩ (fun hc=>Ha1 O O O) O (Gb (u:=BL ((decide (0 < (i27:Int)))&&(decide (y27≤y36)))) [(26,BL (decide (0 < (i27:Int)))),(34,_)] O O O .scf ⟨.all id,.part,G⟩ (fun hc=>Qa O O O O) ?_)))
  refine JLh (BL ((!r34)||((decide (0 < (i27:Int)))&&(decide (y27≤y36))))) (G09 O O O O) O (G7 (hK32 (JCc O h (fun h hb=>?_) (fun h hb=>?_))))
  ·
   refine Jr fun hK37=>(Ru (BL false) O (G7 (hK37 (Gr (fin1 BL h)))))
  ·
   refine Gn (hK30 (G3 (JLh (G0 ((i27+1:Nat):Int)) (Hu (He hk27 hm8) O O O) O (Ru (G0 ((i27+1:Nat):Int)) O (G7 (e27 _ _ (i27+1) () (app1 hn27 h) (by omega) ⟨(by repeat' constructor),G,rfl⟩))))))
 ·
  have h:=app1 hkx27 (Hp hi27 (H7 hb))
  refine Hr (hK3 ?_)
  refine Jr fun hK38=>(Ru (.fn 71 []) O (JLh (Ef c) (Ga Zz O O O) O (JLh (G0 c.Bay) (Gf Gc O O O) O (JLh (.agg [G0 c.Bay,G0 0,G0 39]) (J8 (cs:=[G0 c.Bay,G0 0,G0 39]) [(0,1),(1,1),(2,1)] [G0 0,G0 0,G0 0] [.int .i64 0,.int .i64 0,.int .i64 0] Re Yo ⟨.inl O,.inl O,.inl O,G⟩ O O) O (JLh (.dptr [G0 c.Row,BL c.Deck,G0 c.Tiers,G0 c.Height,G0 c.Kilos20,G0 c.Kilos40,G0 c.Lash,E1 c.Plugs,G0 c.X,G0 c.Y,G0 c.Z]) (Ga Zy O O O) O (JLh (G0 c.Row) (Gf Gc O O O) O (JLh (.agg [G0 c.Row,G0 0,G0 30]) (J8 (cs:=[G0 c.Row,G0 0,G0 30]) [(0,1),(1,1),(2,1)] [G0 0,G0 0,G0 0] [.int .i64 0,.int .i64 0,.int .i64 0] Re Yo ⟨.inl O,.inl O,.inl O,G⟩ O O) O (JLh (.dptr [G0 c.Tiers,G0 c.Height,G0 c.Kilos20,G0 c.Kilos40,G0 c.Lash,E1 c.Plugs,G0 c.X,G0 c.Y,G0 c.Z]) (Ga G9d O O O) O (JLh (G0 c.Tiers) (Gf Gc O O O) O (JLh (.agg [G0 c.Tiers,G0 1,G0 10]) (J8 (cs:=[G0 c.Tiers,G0 1,G0 10]) [(0,1),(1,1),(2,1)] [G0 0,G0 0,G0 0] [.int .i64 0,.int .i64 0,.int .i64 0] Re Yo ⟨.inl O,.inl O,.inl O,G⟩ O O) O (JLh (.dptr [G0 c.Height,G0 c.Kilos20,G0 c.Kilos40,G0 c.Lash,E1 c.Plugs,G0 c.X,G0 c.Y,G0 c.Z]) (Ga H99 O O O) O (JLh (G0 c.Height) (Gf Gc O O O) O (JLh (.agg [G0 c.Height,G0 0,G0 40000]) (J8 (cs:=[G0 c.Height,G0 0,G0 40000]) [(0,1),(1,1),(2,1)] [G0 0,G0 0,G0 0] [.int .i64 0,.int .i64 0,.int .i64 0] Re Yo ⟨.inl O,.inl O,.inl O,G⟩ O O) O ?_)))))))))))))
  refine JLh (.dptr [G0 c.Kilos20,G0 c.Kilos40,G0 c.Lash,E1 c.Plugs,G0 c.X,G0 c.Y,G0 c.Z]) (Ga Jb6 O O O) O (JLh (G0 c.Kilos20) (Gf Gc O O O) O (JLh (.agg [G0 c.Kilos20,G0 0,G0 500000000]) (J8 (cs:=[G0 c.Kilos20,G0 0,G0 500000000]) [(0,1),(1,1),(2,1)] [G0 0,G0 0,G0 0] [.int .i64 0,.int .i64 0,.int .i64 0] Re Yo ⟨.inl O,.inl O,.inl O,G⟩ O O) O (JLh (.dptr [G0 c.Kilos40,G0 c.Lash,E1 c.Plugs,G0 c.X,G0 c.Y,G0 c.Z]) (Ga Jb5 O O O) O (JLh (G0 c.Kilos40) (Gf Gc O O O) O (JLh (.agg [G0 c.Kilos40,G0 0,G0 500000000]) (J8 (cs:=[G0 c.Kilos40,G0 0,G0 500000000]) [(0,1),(1,1),(2,1)] [G0 0,G0 0,G0 0] [.int .i64 0,.int .i64 0,.int .i64 0] Re Yo ⟨.inl O,.inl O,.inl O,G⟩ O O) O (JLh (.dptr [G0 c.Lash,E1 c.Plugs,G0 c.X,G0 c.Y,G0 c.Z]) (Ga Jb4 O O O) O (JLh (G0 c.Lash) (Gf Gc O O O) O (JLh (.agg [G0 c.Lash,G0 0,G0 1000000000000]) (J8 (cs:=[G0 c.Lash,G0 0,G0 1000000000000]) [(0,1),(1,1),(2,1)] [G0 0,G0 0,G0 0] [.int .i64 0,.int .i64 0,.int .i64 0] Re Yo ⟨.inl O,.inl O,.inl O,G⟩ O O) O (JLh (.dptr [G0 c.X,G0 c.Y,G0 c.Z]) (Ga H97 O O O) O (JLh (G0 c.X) (Gf Gc O O O) O (JLh (.agg [G0 c.X,G0 (-500000),G0 500000]) (J8 (cs:=[G0 c.X,G0 (-500000),G0 500000]) [(0,1),(1,1),(2,1)] [G0 0,G0 0,G0 0] [.int .i64 0,.int .i64 0,.int .i64 0] Re Yo ⟨.inl O,.inl O,.inl O,G⟩ O O) O (JLh (.dptr [G0 c.Y,G0 c.Z]) (Ga H52 O O O) O (JLh (G0 c.Y) (Gf Gc O O O) O ?_)))))))))))))
  refine JLh (.agg [G0 c.Y,G0 (-500000),G0 500000]) (J8 (cs:=[G0 c.Y,G0 (-500000),G0 500000]) [(0,1),(1,1),(2,1)] [G0 0,G0 0,G0 0] [.int .i64 0,.int .i64 0,.int .i64 0] Re Yo ⟨.inl O,.inl O,.inl O,G⟩ O O) O (JLh (.dptr [G0 c.Z]) (Ga Gd0 O O O) O (JLh (G0 c.Z) (Gf Gc O O O) O (JLh (.agg [G0 c.Z,G0 (-500000),G0 500000]) (J8 (cs:=[G0 c.Z,G0 (-500000),G0 500000]) [(0,1),(1,1),(2,1)] [G0 0,G0 0,G0 0] [.int .i64 0,.int .i64 0,.int .i64 0] Re Yo ⟨.inl O,.inl O,.inl O,G⟩ O O) O (JLh (LS 3 Hb.av [(Hb.mk c.Bay 0 39),(Hb.mk c.Row 0 30),(Hb.mk c.Tiers 1 10),(Hb.mk c.Height 0 40000),(Hb.mk c.Kilos20 0 500000000),(Hb.mk c.Kilos40 0 500000000),(Hb.mk c.Lash 0 1000000000000),(Hb.mk c.X (-500000) 500000),(Hb.mk c.Y (-500000) 500000),(Hb.mk c.Z (-500000) 500000)]) (H9 (xs:=[.agg [G0 c.Bay,G0 0,G0 39],.agg [G0 c.Row,G0 0,G0 30],.agg [G0 c.Tiers,G0 1,G0 10],.agg [G0 c.Height,G0 0,G0 40000],.agg [G0 c.Kilos20,G0 0,G0 500000000],.agg [G0 c.Kilos40,G0 0,G0 500000000],.agg [G0 c.Lash,G0 0,G0 1000000000000],.agg [G0 c.X,G0 (-500000),G0 500000],.agg [G0 c.Y,G0 (-500000),G0 500000],.agg [G0 c.Z,G0 (-500000),G0 500000]]) O ⟨O,O,O,O,O,O,O,O,O,O,O,O,O,O,O,O,O,O,O,O,G⟩ Gc0 H22 O O O O) O ?_))))
  obtain⟨r39,hr39,h⟩:=Ge h
  refine JLh (BL r39) (G15 (args:=[LS 3 Hb.av [(Hb.mk c.Bay 0 39),(Hb.mk c.Row 0 30),(Hb.mk c.Tiers 1 10),(Hb.mk c.Height 0 40000),(Hb.mk c.Kilos20 0 500000000),(Hb.mk c.Kilos40 0 500000000),(Hb.mk c.Lash 0 1000000000000),(Hb.mk c.X (-500000) 500000),(Hb.mk c.Y (-500000) 500000),(Hb.mk c.Z (-500000) 500000)]]) (caps:=[]) O O (H1b [(Hb.mk c.Bay 0 39),(Hb.mk c.Row 0 30),(Hb.mk c.Tiers 1 10),(Hb.mk c.Height 0 40000),(Hb.mk c.Kilos20 0 500000000),(Hb.mk c.Kilos40 0 500000000),(Hb.mk c.Lash 0 1000000000000),(Hb.mk c.X (-500000) 500000),(Hb.mk c.Y (-500000) 500000),(Hb.mk c.Z (-500000) 500000)] r39 hr39) J5d ⟨O,O,G⟩ O) O (Ru (BL r39) O (G7 (hK38 (Gr (fin1 BL h)))))

def G86 (s:Gw) (Rp:Bool→Prop):Option Prop:=
 bif (((decide ((s.Columns.length:Int) < 1))||(decide (200 < (s.Columns.length:Int))))||(decide (40 < (s.Covers.length:Int)))) then
 (some (Rp false))
 else
 (each (fun y68 i68 (s68:(H5 H8 Int)) nx68=>
   jp (fun kj74=>
    bif y68.Deck then
    (kj74 1)
    else
    (kj74 0)) fun(j74:Int)=>
   bnd (some (H5.get s68 (H8.mk y68.Bay y68.Row j74) 0)) fun v77=>
   G0d (v77+1) fun v78=>
   bnd (G4b y68) fun r80=>
   bif (!r80) then
   (some (Rp false))
   else
   (nx68 (H5.put s68 (H8.mk y68.Bay y68.Row j74) v78)))
  (fun(s68:(H5 H8 Int))=>
   each (fun y84 i84 (s84:(H5 H8 Int)) nx84=>
    bif (((decide (y84.Bay < 0))||(decide (40≤y84.Bay)))||(decide ((y84.Rows.length:Int)=0))) then
    (some (Rp false))
    else
    (each (fun y157 i157 (s157:(H5 H8 Int)) nx157=>
      bnd (bif ((!((decide (y157 < 0))||(decide (30 < y157))))&&(decide (0 < (i157:Int)))) then G0d ((i157:Int) - 1) some else some 0) fun v164=>
      bnd (bif ((!((decide (y157 < 0))||(decide (30 < y157))))&&(decide (0 < (i157:Int)))) then Rx y84.Rows v164 some else some default) fun y165=>
      bif (((decide (y157 < 0))||(decide (30 < y157)))||((decide (0 < (i157:Int)))&&(decide (y157≤y165)))) then
      (some (Rp false))
      else
      (bnd (some (H5.get s157 (H8.mk y84.Bay y157 2) 0)) fun v167=>
       G0d (v167+1) fun v168=>
       nx157 (H5.put s157 (H8.mk y84.Bay y157 2) v168)))
     (fun(s157:(H5 H8 Int))=>
      nx84 s157) y84.Rows 0 s84))
   (fun(s84:(H5 H8 Int))=>
    eachM (fun(x176:H8×Int) (s176:Unit) nx176=>
     bif decide (1 < x176.2) then
     (lft (some (Rp false)))
     else
     (nx176 ()))
    (fun(s176:Unit)=>
     some (Rp true)) (H5.l s84) ()) s.Covers 0 s68) s.Columns 0 (H5.empty:H5 H8 Int))
def Gca (s:Gw):Option Bool:=
 bif (((decide ((s.Columns.length:Int) < 1))||(decide (200 < (s.Columns.length:Int))))||(decide (40 < (s.Covers.length:Int)))) then
 (some (id false))
 else
 (each (fun y68 i68 (s68:(H5 H8 Int)) nx68=>
   jp (fun kj74=>
    bif y68.Deck then
    (kj74 1)
    else
    (kj74 0)) fun(j74:Int)=>
   bnd (some (H5.get s68 (H8.mk y68.Bay y68.Row j74) 0)) fun v77=>
   G0d (v77+1) fun v78=>
   bnd (G4b y68) fun r80=>
   bif (!r80) then
   (some (id false))
   else
   (nx68 (H5.put s68 (H8.mk y68.Bay y68.Row j74) v78)))
  (fun(s68:(H5 H8 Int))=>
   each (fun y84 i84 (s84:(H5 H8 Int)) nx84=>
    bif (((decide (y84.Bay < 0))||(decide (40≤y84.Bay)))||(decide ((y84.Rows.length:Int)=0))) then
    (some (id false))
    else
    (each (fun y157 i157 (s157:(H5 H8 Int)) nx157=>
      bnd (bif ((!((decide (y157 < 0))||(decide (30 < y157))))&&(decide (0 < (i157:Int)))) then G0d ((i157:Int) - 1) some else some 0) fun v164=>
      bnd (bif ((!((decide (y157 < 0))||(decide (30 < y157))))&&(decide (0 < (i157:Int)))) then Rx y84.Rows v164 some else some default) fun y165=>
      bif (((decide (y157 < 0))||(decide (30 < y157)))||((decide (0 < (i157:Int)))&&(decide (y157≤y165)))) then
      (some (id false))
      else
      (bnd (some (H5.get s157 (H8.mk y84.Bay y157 2) 0)) fun v167=>
       G0d (v167+1) fun v168=>
       nx157 (H5.put s157 (H8.mk y84.Bay y157 2) v168)))
     (fun(s157:(H5 H8 Int))=>
      nx84 s157) y84.Rows 0 s84))
   (fun(s84:(H5 H8 Int))=>
    runM (fun(x176:H8×Int) (s176:Unit) nx176=>
     bif decide (1 < x176.2) then
     (lft (some (id false)))
     else
     (nx176 ()))
    (fun(s176:Unit)=>
     some (id true)) (H5.l s84) ()) s.Covers 0 s68) s.Columns 0 (H5.empty:H5 H8 Int))
theorem J9d (s:Gw) (Rp:Bool→Prop) (p:Prop) (h:G86 s Rp=some p) (hp:p):Pure Ej 15 [.agg (Gw.cs s)] (fun av=>∃ r,Rp r∧av=BL r):=by
 unfold G86 at h
 refine H1 [.tmp 2] Tryz.func15 O O (Jr fun hK1=>(JLh (.ptr 1048 0) (Jm (cs:=(Gw.cs s)) 1048 O O O O O) O (Ru (BL false) O (G7 (hK1 (Gp [(1,Ec s)] [] 1048 rfl rfl rfl G rfl (by exact⟨.ptr,G⟩) (Js fun hK2=>?_)))))))
 refine Jr fun hK3=>(JLh (Ec s) (Ga J2 O O O) O (JLh (E3 s.Columns) (Gf Ja O O O) O (JLl J5 O O O fun hm15=>(JLh (BL (decide ((s.Columns.length:Int) < 1))) (Hz O O O) O (Ru (BL (decide ((s.Columns.length:Int) < 1))) O (JLo (Ec s) [] O .scf G (fun hc=>Ga J2 O O O) O (JLo (E3 s.Columns) [18] O .scf ⟨Ua,G⟩ (fun hc=>Gf Ja O O O) O (JLo (Ei s.Columns.length) [19] O .scf ⟨Ua,G⟩ (fun hc=>Z4 (f:=G4.av) (xs:=s.Columns) J5 O O) O (JLo (BL (decide (200 < (s.Columns.length:Int)))) [20] O .scf ⟨Ua,G⟩ (fun hc=>G76 O O O) O (JLh (BL ((decide ((s.Columns.length:Int) < 1))||(decide (200 < (s.Columns.length:Int))))) (G09 O O O O) O (Ru (BL ((decide ((s.Columns.length:Int) < 1))||(decide (200 < (s.Columns.length:Int))))) O (JLo (.dptr [E4 s.Covers,G0 s.Light.Kilos,G0 s.Light.X,G0 s.Light.Y,G0 s.Light.Z,E5 s.Rows,E6 s.Frames,E7 s.Tanks,G0 s.G2.Tolerance,G0 s.G2.Trim,G0 s.G2.List_,G0 s.G2.Stability]) [] O .scf G (fun hc=>Ga Q5 O O O) O (JLo (E4 s.Covers) [24] O .scf ⟨Ua,G⟩ (fun hc=>Gf Qo O O O) O ?_)))))))))))))
 refine JLo (Ei s.Covers.length) [25] O .scf ⟨Ua,G⟩ (fun hc=>Z4 (f:=G9.av) (xs:=s.Covers) Q8 O O) O (JLo (BL (decide (40 < (s.Covers.length:Int)))) [26] O .scf ⟨Ua,G⟩ (fun hc=>G76 O O O) O (JLh (BL (((decide ((s.Columns.length:Int) < 1))||(decide (200 < (s.Columns.length:Int))))||(decide (40 < (s.Covers.length:Int))))) (G09 O O O O) O (G7 (hK3 (JCc O h (fun h hb=>?_) (fun h hb=>?_))))))
 ·
  refine Jr fun hK4=>(Ru (BL false) O (G7 (hK4 (Gr (⟨[BL false],[],G,O,⟨⟨_,O,.conv (.same O)⟩,G⟩,O,false,Eq.mpr (Option.some.inj h) hp,O⟩)))))
 ·
  refine Gn (hK2 (Jr fun hK5=>(JLh (.mp 1051) (G9a 1051 H8.kv G0 O O) O (Ru (.mp 1051) O (G7 (hK5 (Js fun hK6=>Jr fun hK7=>(JLh (Ec s) (Ga J2 O O O) O (JLh (E3 s.Columns) (Gf Ja O O O) O (JLl J5 O O O fun hm32=>(Ru (G0 0) O (G7 (hK7 (Gq ?_))))))))))))))
  obtain⟨b68,kx68,hb68,hkx68,h⟩:=Hx h
  refine Hg (fun i68 (s68:(H5 H8 Int))=>each b68 kx68 (List.drop i68 s.Columns) i68 s68=some p) (fun i68 s68=>[(1,Ec s),(3,.mp 1051),(31,E3 s.Columns),(32,Ei s.Columns.length),(33,Ei i68)]) (fun i68 s68=>[(1051,MP 106 H8.kv G0 s68)]) (fun i68=>s.Columns.length - i68) 0 (H5.empty:H5 H8 Int) h ⟨(by repeat' constructor),⟨⟨_,rfl,.map⟩,G⟩,rfl⟩ ?_
  clear h
  intro i68 s68 hi68 K68 e68
  refine Jr fun hK69=>(JLh (BL (decide ((i68:Int) < (s.Columns.length:Int)))) (Hz O O O) O (G7 (hK69 (Js fun hK70=>Gk O (fun hb=>?_) (fun hb=>?_)))))
  ·
   have hk68:=Jb hb
   obtain⟨y68,nx68,hy68,hn68,h⟩:=Ho hi68 hk68
   replace h:=Rw hb68 h
   refine Gn (hK70 (Js fun hK71=>Gq (Jr fun hK72=>(JLh (Ef y68) (H4 (f:=G4.av) (xs:=s.Columns) (y:=y68) O O O J5 hy68 O) O (JLh (.agg (G4.cs y68)) (Gi G44 O O O) O (JLh (.ptr 1049 0) (Hn 1049 12 G17 O O) O (Hs (u:=.junk) (Ha (u:=.agg (G4.cs y68)) (ds:=(G4.cs y68)) Gcf O O O O O O O O) (G7 (hK72 ?_)))))))))
   refine Gp [(1,Ec s),(3,.mp 1051),(5,Ef y68),(31,E3 s.Columns),(32,Ei s.Columns.length),(33,Ei i68)] [(1051,MP 106 H8.kv G0 s68)] 1049 rfl rfl rfl ⟨⟨_,rfl,.map⟩,G⟩ rfl (by repeat' (first | exact .ptr | constructor)) (Jr fun hK73=>(Ru (G0 0) O (G7 (hK73 ?_))))
   obtain⟨kj74,hkj74,h⟩:=Rg h
   refine Qg (fun j74:Int=>kj74 j74=some p) (fun j74=>[(1,Ec s),(3,.mp 1051),(5,Ef y68),(6,G0 j74),(31,E3 s.Columns),(32,Ei s.Columns.length),(33,Ei i68)]) (fun j74=>[(1051,MP 106 H8.kv G0 s68)]) (fun Kj74 ej74=>?_) ?_
   ·
    refine Jr fun hK75=>(JLh (.dptr ((G4.cs y68).drop 2)) (Ga Rf O O O) O (JLh (BL y68.Deck) (Gf Q9 O O O) O (G7 (hK75 (JCc O h (fun h hb=>?_) (fun h hb=>?_))))))
    ·
     refine G3 (Ru (G0 1) O (G7 (ej74 _ _ 1 h ⟨(by repeat' constructor),⟨⟨_,rfl,.map⟩,G⟩,rfl⟩)))
    ·
     refine Gn (ej74 _ _ 0 h ⟨(by repeat' constructor),⟨⟨_,rfl,.map⟩,G⟩,rfl⟩)
   ·intro j74 h
    replace h:=app1 hkj74 h
    refine Js fun hK76=>Yj (l':=[(1,Ec s),(3,.mp 1051),(5,Ef y68),(6,G0 j74),(31,E3 s.Columns),(32,Ei s.Columns.length),(33,Ei i68)]) (L':=[(1051,MP 106 H8.kv G0 s68)]) ⟨(by repeat' constructor),⟨⟨_,rfl,.map⟩,G⟩,rfl⟩ ?_
    obtain⟨v77,hv77,h⟩:=Ge h
    obtain⟨v78,hv78,h⟩:=J7 h
    refine Q7 [9,11] [0,0,0,0,0,0,0,0,0,0,1,0] [0,0,0,0,0,0,0,1,1,0,1,0] [[(1051,MP 106 H8.kv G0 s68)],((1051,MI 106 H8.kv G0 s68 (H8.mk y68.Bay y68.Row j74) 0)::[(1051,MP 106 H8.kv G0 s68)]),((1051,MP 106 H8.kv G0 (H5.put s68 (H8.mk y68.Bay y68.Row j74) v78))::((1051,MI 106 H8.kv G0 s68 (H8.mk y68.Bay y68.Row j74) 0)::[(1051,MP 106 H8.kv G0 s68)]))] Qb (by kernel_rfl) rfl rfl ?_
    refine Gm (u:=.mp 1051) O O ⟨Gs (G6 O O) O,G⟩ (Gm (u:=Ef y68) O O ⟨Gs (Ga Zz O O O) O,G⟩ (Gm (u:=G0 y68.Bay) O O ⟨Gs (Gf Gc O O O) O,G⟩ (Gm (u:=.dptr ((G4.cs y68).drop 1)) O O ⟨Gs (Ga Zy O O O) O,G⟩ (Gm (u:=G0 y68.Row) O O ⟨Gs (Gf Gc O O O) O,G⟩ (Gm (u:=G0 j74) O O ⟨Gs (G6 O O) O,G⟩ (Gm (u:=.agg [G0 y68.Bay,G0 y68.Row,G0 j74]) O O ⟨Gs (Hbf (cs:=[G0 y68.Bay,G0 y68.Row,G0 j74]) [.int .i64 0,.int .i64 0,.int .i64 0] J6d J12 O O) O,G⟩ (Gm (u:=G0 v77) O O ⟨Gs (((Option.some.inj hv77) ▸ Hbd (av:=G0) (m:=s68) (a:=(H8.mk y68.Bay y68.Row j74)) 0 (.int .i64 0) O O O O Hf0 G68 H21 O)) O,Gs (((Option.some.inj hv77) ▸ Ja9 (av:=G0) (m:=s68) (a:=(H8.mk y68.Bay y68.Row j74)) 0 (.int .i64 0) O O O O Hf0 G68 H21 O)) O,G⟩ (Gm (u:=G0 v78) O O ⟨Gs (Hu hv78 O O O) O,Gs (Hu hv78 O O O) O,G⟩ (D_w (u:=.tup [.junk,G0 (Zr (H5.l s68) (H8.mk y68.Bay y68.Row j74):Int)]) O O O O (Gs (J30 (m:=s68) (a:=(H8.mk y68.Bay y68.Row j74)) 0 (.int .i64 0) O O O O Hf0 G68 H21 O) O) (Gm (u:=G0 (Zr (H5.l s68) (H8.mk y68.Bay y68.Row j74):Int)) O O ⟨Gs (H6 O O O) O,G⟩ (Jc9 (u:=.junk) O O O O (Gs (Ha2 (m:=s68) (a:=(H8.mk y68.Bay y68.Row j74)) (v:=v78) 0 O O O O O O) O) (Yq ?_))))))))))))
    refine hK76 (Jr fun hK79=>(JLh (.agg (G4.cs y68)) (Gi G44 O O O) O ?_))
    obtain⟨r80,hr80,h⟩:=Ge h
    refine JLh (BL r80) (Gt O (J9b y68 r80 hr80) Q0f ⟨O,O,G⟩) O (JLh (BL (!r80)) (Rj (b:=r80) O O) O (G7 (hK79 (JCc O h (fun h hb=>?_) (fun h hb=>?_)))))
    ·
     refine Jr fun hK81=>(Ru (BL false) O (G7 (hK81 (Gr (⟨[BL false],[],G,O,⟨⟨_,O,.conv (.same O)⟩,G⟩,O,false,Eq.mpr (Option.some.inj h) hp,O⟩)))))
    ·
     refine Gn (hK71 (G3 (JLh (G0 ((i68+1:Nat):Int)) (Hu (He hk68 hm32) O O O) O (Ru (G0 ((i68+1:Nat):Int)) O (G7 (e68 _ _ (i68+1) (H5.put s68 (H8.mk y68.Bay y68.Row j74) v78) (app1 hn68 h) (by omega) ⟨(by repeat' constructor),⟨⟨_,rfl,.map⟩,G⟩,rfl⟩))))))
  ·
   have h:=app1 hkx68 (Hp hi68 (H7 hb))
   refine Hr (hK6 (Js fun hK82=>Jr fun hK83=>(JLh (.dptr [E4 s.Covers,G0 s.Light.Kilos,G0 s.Light.X,G0 s.Light.Y,G0 s.Light.Z,E5 s.Rows,E6 s.Frames,E7 s.Tanks,G0 s.G2.Tolerance,G0 s.G2.Trim,G0 s.G2.List_,G0 s.G2.Stability]) (Ga Q5 O O O) O (JLh (E4 s.Covers) (Gf Qo O O O) O (JLl Q8 O O O fun hm56=>(Ru (G0 0) O (G7 (hK83 (Gq ?_)))))))))
   obtain⟨b84,kx84,hb84,hkx84,h⟩:=Hx h
   refine Hg (fun i84 (s84:(H5 H8 Int))=>each b84 kx84 (List.drop i84 s.Covers) i84 s84=some p) (fun i84 s84=>[(3,.mp 1051),(55,E4 s.Covers),(56,Ei s.Covers.length),(57,Ei i84)]) (fun i84 s84=>[(1051,MP 106 H8.kv G0 s84)]) (fun i84=>s.Covers.length - i84) 0 s68 h ⟨(by repeat' constructor),⟨⟨_,rfl,.map⟩,G⟩,rfl⟩ ?_
   clear h
   intro i84 s84 hi84 K84 e84
   refine Jr fun hK85=>(JLh (BL (decide ((i84:Int) < (s.Covers.length:Int)))) (Hz O O O) O (G7 (hK85 (Js fun hK86=>Gk O (fun hb=>?_) (fun hb=>?_)))))
   ·
    have hk84:=Jb hb
    obtain⟨y84,nx84,hy84,hn84,h⟩:=Ho hi84 hk84
    replace h:=Rw hb84 h
    refine Gn (hK86 (Js fun hK87=>Gq (Jr fun hK88=>(JLh (.dptr [G0 y84.Bay,E1 y84.Rows]) (H4 (f:=G9.av) (xs:=s.Covers) (y:=y84) O O O Q8 hy84 O) O (JLh (.agg [G0 y84.Bay,E1 y84.Rows]) (Gi H12 O O O) O (JLh (.ptr 1050 0) (Hn 1050 2 Ga5 O O) O (Hs (u:=.junk) (Ha (u:=.agg [G0 y84.Bay,E1 y84.Rows]) (ds:=[G0 y84.Bay,E1 y84.Rows]) J49 O O O O O O O O) (G7 (hK88 (Gp [(3,.mp 1051),(8,.dptr [G0 y84.Bay,E1 y84.Rows]),(55,E4 s.Covers),(56,Ei s.Covers.length),(57,Ei i84)] [(1051,MP 106 H8.kv G0 s84)] 1050 rfl rfl rfl ⟨⟨_,rfl,.map⟩,G⟩ rfl (by repeat' (first | exact .ptr | constructor)) (Js fun hK89=>?_)))))))))))
    refine Jr fun hK90=>(JLh (.dptr [G0 y84.Bay,E1 y84.Rows]) (Ga G54 O O O) O (JLh (G0 y84.Bay) (Gf Gc O O O) O (JLh (BL (decide (y84.Bay < 0))) (Hz O O O) O (Ru (BL (decide (y84.Bay < 0))) O (JLo (.dptr [G0 y84.Bay,E1 y84.Rows]) [] O .scf G (fun hc=>Ga G54 O O O) O (JLo (G0 y84.Bay) [65] O .scf ⟨Ua,G⟩ (fun hc=>Gf Gc O O O) O (JLo (BL (decide (40≤y84.Bay))) [66] O .scf ⟨Ua,G⟩ (fun hc=>G8a O O O) O (JLh (BL ((decide (y84.Bay < 0))||(decide (40≤y84.Bay)))) (G09 O O O O) O (Ru (BL ((decide (y84.Bay < 0))||(decide (40≤y84.Bay)))) O (JLo (.dptr [E1 y84.Rows]) [] O .scf G (fun hc=>Ga G53 O O O) O (JLo (E1 y84.Rows) [70] O .scf ⟨Ua,G⟩ (fun hc=>Gf Q1 O O O) O (JLo (Ei y84.Rows.length) [71] O .scf ⟨Ua,G⟩ (fun hc=>Z4 (f:=G0) (xs:=y84.Rows) Gv O O) O (JLo (BL (decide ((y84.Rows.length:Int)=0))) [72] O .scf ⟨Ua,G⟩ (fun hc=>Qh O O O) O ?_)))))))))))))
    refine JLh (BL (((decide (y84.Bay < 0))||(decide (40≤y84.Bay)))||(decide ((y84.Rows.length:Int)=0)))) (G09 O O O O) O (G7 (hK90 (JCc O h (fun h hb=>?_) (fun h hb=>?_))))
    ·
     refine Jr fun hK91=>(Ru (BL false) O (G7 (hK91 (Gr (⟨[BL false],[],G,O,⟨⟨_,O,.conv (.same O)⟩,G⟩,O,false,Eq.mpr (Option.some.inj h) hp,O⟩)))))
    ·
     refine Gn (hK89 (Jr fun hK92=>(JLh (.dptr [E1 y84.Rows]) (Ga G53 O O O) O (JLh (E1 y84.Rows) (Gf Q1 O O O) O (JLl Gv O O O fun hm77=>(Ru (G0 0) O (G7 (hK92 (Gq ?_)))))))))
     obtain⟨b157,kx157,hb157,hkx157,h⟩:=Hx h
     refine Hg (fun i157 (s157:(H5 H8 Int))=>each b157 kx157 (List.drop i157 y84.Rows) i157 s157=some p) (fun i157 s157=>[(3,.mp 1051),(8,.dptr [G0 y84.Bay,E1 y84.Rows]),(55,E4 s.Covers),(56,Ei s.Covers.length),(57,Ei i84),(76,E1 y84.Rows),(77,Ei y84.Rows.length),(78,Ei i157)]) (fun i157 s157=>[(1051,MP 106 H8.kv G0 s157)]) (fun i157=>y84.Rows.length - i157) 0 s84 h ⟨(by repeat' constructor),⟨⟨_,rfl,.map⟩,G⟩,rfl⟩ ?_
     clear h
     intro i157 s157 hi157 K157 e157
     refine Jr fun hK158=>(JLh (BL (decide ((i157:Int) < (y84.Rows.length:Int)))) (Hz O O O) O (G7 (hK158 (Js fun hK159=>Gk O (fun hb=>?_) (fun hb=>?_)))))
     ·
      have hk157:=Jb hb
      obtain⟨y157,nx157,hy157,hn157,h⟩:=Ho hi157 hk157
      replace h:=Rw hb157 h
      refine Gn (hK159 (Js fun hK160=>Gq (Jr fun hK161=>(Ru (Ei i157) O (JLh (.dptr [G0 y157]) (H4 (f:=G0) (xs:=y84.Rows) (y:=y157) O O O Gv hy157 O) O (JLh (G0 y157) (Gf Gc O O O) O (Ru (Ei i157) O (Ru (G0 y157) O (G7 (hK161 (Js fun hK162=>?_)))))))))))
      refine Jr fun hK163=>(Ru (G0 y157) O (JLh (BL (decide (y157 < 0))) (Hz O O O) O (Ru (BL (decide (y157 < 0))) O (JLo (G0 y157) [] O .scf G (fun hc=>G6 O O) O (JLo (BL (decide (30 < y157))) [86] O .scf ⟨Ua,G⟩ (fun hc=>G76 O O O) O (JLh (BL ((decide (y157 < 0))||(decide (30 < y157)))) (G09 O O O O) O (Ru (BL ((decide (y157 < 0))||(decide (30 < y157)))) O (JLo (Ei i157) [] O .scf G (fun hc=>G6 O O) O (JLo (BL (decide (0 < (i157:Int)))) [90] O .scf ⟨Ua,G⟩ (fun hc=>G76 O O O) O (JLo (BL (decide (0 < (i157:Int)))) [91] O .scf ⟨Ua,G⟩ (fun hc=>G6 O O) O (JLo (G0 y157) [] O .optt G (fun hc=>G6 O O) O (JLo (.dptr [E1 y84.Rows]) [] O .optt G (fun hc=>Ga G53 O O O) O (JLo (E1 y84.Rows) [94] O .optt ⟨Ua,G⟩ (fun hc=>Gf Q1 O O O) O ?_)))))))))))))
      refine JLo (Ei i157) [] O .optt G (fun hc=>G6 O O) O ?_
      obtain⟨v164,hv164,h⟩:=Ge h
      refine JLo (G0 v164) [96] O .optt ⟨Ua,G⟩ (fun hc=>Gea (H16 (H2 hc hv164)) O O O) O ?_
      obtain⟨y165,hy165,h⟩:=Ge h
      refine JLo (.dptr [G0 y165]) [95,97] O .optt ⟨Ua,Ua,G⟩ (fun hc=>(match Qq (H2 hc hy165) with | ⟨_,hm_,hy_⟩=>H4 (f:=G0) (xs:=y84.Rows) (y:=y165) O O O Gv hy_ hm_)) O (JLo (G0 y165) [98] O .optt ⟨Ua,G⟩ (fun hc=>Gf Gc O O O) O (JLo (BL (decide (y157≤y165))) [93,99] O .optt ⟨Ua,Ua,G⟩ (fun hc=>Ha1 O O O) O (Gb (u:=BL ((decide (0 < (i157:Int)))&&(decide (y157≤y165)))) [(92,BL (decide (0 < (i157:Int)))),(100,_)] O O O .scf ⟨.all id,.part,G⟩ (fun hc=>Qa O O O O) ?_)))
      refine JLh (BL (((decide (y157 < 0))||(decide (30 < y157)))||((decide (0 < (i157:Int)))&&(decide (y157≤y165))))) (G09 O O O O) O (G7 (hK163 (JCc O h (fun h hb=>?_) (fun h hb=>?_))))
      ·
       refine Jr fun hK166=>(Ru (BL false) O (G7 (hK166 (Gr (⟨[BL false],[],G,O,⟨⟨_,O,.conv (.same O)⟩,G⟩,O,false,Eq.mpr (Option.some.inj h) hp,O⟩)))))
      ·
       refine Gn (hK162 (Yj (l':=[(3,.mp 1051),(8,.dptr [G0 y84.Bay,E1 y84.Rows]),(10,G0 y157),(55,E4 s.Covers),(56,Ei s.Covers.length),(57,Ei i84),(76,E1 y84.Rows),(77,Ei y84.Rows.length),(78,Ei i157)]) (L':=[(1051,MP 106 H8.kv G0 s157)]) ⟨(by repeat' constructor),⟨⟨_,rfl,.map⟩,G⟩,rfl⟩ ?_))
       obtain⟨v167,hv167,h⟩:=Ge h
       obtain⟨v168,hv168,h⟩:=J7 h
       refine Q7 [7,9] [0,0,0,0,0,0,0,0,1,0] [0,0,0,0,0,1,1,0,1,0] [[(1051,MP 106 H8.kv G0 s157)],((1051,MI 106 H8.kv G0 s157 (H8.mk y84.Bay y157 2) 0)::[(1051,MP 106 H8.kv G0 s157)]),((1051,MP 106 H8.kv G0 (H5.put s157 (H8.mk y84.Bay y157 2) v168))::((1051,MI 106 H8.kv G0 s157 (H8.mk y84.Bay y157 2) 0)::[(1051,MP 106 H8.kv G0 s157)]))] Qb (by kernel_rfl) rfl rfl ?_
       refine Gm (u:=.mp 1051) O O ⟨Gs (G6 O O) O,G⟩ (Gm (u:=.dptr [G0 y84.Bay,E1 y84.Rows]) O O ⟨Gs (Ga G54 O O O) O,G⟩ (Gm (u:=G0 y84.Bay) O O ⟨Gs (Gf Gc O O O) O,G⟩ (Gm (u:=G0 y157) O O ⟨Gs (G6 O O) O,G⟩ (Gm (u:=.agg [G0 y84.Bay,G0 y157,G0 2]) O O ⟨Gs (Hbf (cs:=[G0 y84.Bay,G0 y157,G0 2]) [.int .i64 0,.int .i64 0,.int .i64 0] J6d J12 O O) O,G⟩ (Gm (u:=G0 v167) O O ⟨Gs (((Option.some.inj hv167) ▸ Hbd (av:=G0) (m:=s157) (a:=(H8.mk y84.Bay y157 2)) 0 (.int .i64 0) O O O O Hf0 G68 H21 O)) O,Gs (((Option.some.inj hv167) ▸ Ja9 (av:=G0) (m:=s157) (a:=(H8.mk y84.Bay y157 2)) 0 (.int .i64 0) O O O O Hf0 G68 H21 O)) O,G⟩ (Gm (u:=G0 v168) O O ⟨Gs (Hu hv168 O O O) O,Gs (Hu hv168 O O O) O,G⟩ (D_w (u:=.tup [.junk,G0 (Zr (H5.l s157) (H8.mk y84.Bay y157 2):Int)]) O O O O (Gs (J30 (m:=s157) (a:=(H8.mk y84.Bay y157 2)) 0 (.int .i64 0) O O O O Hf0 G68 H21 O) O) (Gm (u:=G0 (Zr (H5.l s157) (H8.mk y84.Bay y157 2):Int)) O O ⟨Gs (H6 O O O) O,G⟩ (Jc9 (u:=.junk) O O O O (Gs (Ha2 (m:=s157) (a:=(H8.mk y84.Bay y157 2)) (v:=v168) 0 O O O O O O) O) (Yq ?_))))))))))
       refine hK160 (G3 (JLh (G0 ((i157+1:Nat):Int)) (Hu (He hk157 hm77) O O O) O (Ru (G0 ((i157+1:Nat):Int)) O (G7 (e157 _ _ (i157+1) (H5.put s157 (H8.mk y84.Bay y157 2) v168) (app1 hn157 h) (by omega) ⟨(by repeat' constructor),⟨⟨_,rfl,.map⟩,G⟩,rfl⟩)))))
     ·
      have h:=app1 hkx157 (Hp hi157 (H7 hb))
      refine Hr (hK87 (G3 (JLh (G0 ((i84+1:Nat):Int)) (Hu (He hk84 hm56) O O O) O (Ru (G0 ((i84+1:Nat):Int)) O (G7 (e84 _ _ (i84+1) s157 (app1 hn84 h) (by omega) ⟨(by repeat' constructor),⟨⟨_,rfl,.map⟩,G⟩,rfl⟩))))))
   ·
    have h:=app1 hkx84 (Hp hi84 (H7 hb))
    refine Hr (hK82 (Js fun hK169=>Jr fun hK170=>(Ru (.mp 1051) O (JLh (.it 1052) (A_rangeM 1052 (m:=s84) O O O O G68) O (G7 (hK170 (Gq ?_)))))))
    obtain⟨b176,kx176,hb176,hkx176,h⟩:=eachM_in h
    refine JC_loopM (H5.size s84) (fun i176 (s176:Unit)=>MInv b176 kx176 (H5.l s84) i176 s176) (fun i176 s176=>[(115,.it 1052)]) (fun i176 s176=>[(1051,MP 106 H8.kv G0 s84),(1052,.iter 1051 (H5.size s84) i176)]) () (MInv.start h hp) ⟨⟨.same O,G⟩,⟨⟨_,O,.map⟩,⟨_,O,.iter O⟩,G⟩,O⟩ ?_
    clear h hp
    intro i176 s176 hi176 K176 e176
    refine Jr fun hK177=>H8b O O O (A_nextM (m:=s84) O O O O) ?_
    intro u_ L_ hn_
    rcases hn_ with ⟨q176,x176,he176,hs176,rfl,rfl⟩ | ⟨ha176,rfl,rfl⟩
    ·
     obtain⟨o176,h,ho1_176,ho2_176⟩:=hi176.step he176 hs176
     replace h:=app3 hb176 h
     refine JLh (BL true) (H6 O O O) O (G7 (hK177 (Js fun hK178=>JC_condT O (Gn (hK178 (Gq (Jr fun hK179=>(JLh (.tup [.agg (H8.cs x176.1),G0 x176.2]) (A_entryM (kv:=H8.kv) (av:=G0) (m:=s84) (q:=q176) (seen:=i176) (e:=x176) O O O O he176) O (JLh (G0 x176.2) (H6 O O O) O (Ru (G0 x176.2) O (G7 (hK179 (Jr fun hK180=>(Ru (G0 x176.2) O (JLh (BL (decide (1 < x176.2))) (G76 O O O) O (G7 (hK180 (JCc O h (fun h hb=>?_) (fun h hb=>?_)))))))))))))))))))
     ·
      refine Jr fun hK181=>(Ru (BL false) O (G7 (hK181 (Gr ?_))))
      obtain⟨y_,hy_,hl_⟩:=lft_out h
      exact⟨[BL false],[],G,O,⟨⟨_,O,.conv (.same O)⟩,G⟩,O,false,Eq.mpr (Option.some.inj hl_) (ho1_176 y_ hy_),O⟩
     ·
      refine Gn (e176 _ _ (i176++[q176]) () (ho2_176 _ (Option.some.inj h).symm) (unseen_lt (List.getElem?_eq_some_iff.1 he176).1 hs176) ⟨⟨.same O,G⟩,⟨⟨_,O,.map⟩,⟨_,O,.iter O⟩,G⟩,O⟩)
    ·
     obtain⟨p_,h,hp⟩:=hi176.done ha176
     replace h:=app1 hkx176 h
     refine JLh (BL false) (H6 O O O) O (G7 (hK177 (Js fun hK182=>JC_condF O (Hr (hK169 (Jr fun hK183=>(Ru (BL true) O (G7 (hK183 (Gr (⟨[BL true],[],G,O,⟨⟨_,O,.conv (.same O)⟩,G⟩,O,true,Eq.mpr (Option.some.inj h) hp,O⟩)))))))))))
theorem J9e (S_:(Gw)→Option Bool) (hS_:∀ s r,S_ s=some r→∃ p:Prop,G86 s (fun r_=>r_=r)=some p∧p) (s:Gw) (r:Bool) (h:S_ s=some r):Pure Ej 15 [.agg (Gw.cs s)] (·=BL r):=by
 obtain⟨p,h1,h2⟩:=hS_ s r h
 exact(J9d s _ p h1 h2).monoP (fun av hh=>by obtain⟨r_,rfl,ha⟩:=hh; exact ha)

def G06 (size:Int):Option (List Int):=
 bif decide (size=40) then
 (some [0])
 else
 (bif decide (size=20) then
  (some [1,2])
  else
  (some []))
theorem H4b (size:Int) (r:(List Int)) (h:G06 size=some r):Pure Ej 75 [U8 size] (·=E9 r):=by
 unfold G06 at h
 refine H1 [.tmp 2] Tryz.func75 O O (Jr fun hK1=>(JLh (E9 ([]:List Int)) (Ht 1 O O) O (G7 (hK1 (Js fun hK2=>Jr fun hK3=>(Ru (U8 size) O (G7 (hK3 (Gq (Jr fun hK4=>(JLh (BL (decide (size=40))) (Qh O O O) O (Ru (BL (decide (size=40))) O (G7 (hK4 (JCc O h (fun h hb=>?_) (fun h hb=>?_))))))))))))))))
 ·
  refine Jr fun hK5=>(JLh (E9 [0]) (H9 (xs:=[U8 0]) O ⟨O,O,G⟩ G41 J47 O O O O) O (Ru (E9 [0]) O (G7 (hK5 (Gr (fin1 (fun r:(List Int)=>(E9 r:AV)) h))))))
 ·
  refine Jr fun hK6=>(JLh (BL (decide (size=20))) (Qh O O O) O (Ru (BL (decide (size=20))) O (G7 (hK6 (JCc O h (fun h hb=>?_) (fun h hb=>?_))))))
  ·
   refine Jr fun hK7=>(JLh (E9 [1,2]) (H9 (xs:=[U8 1,U8 2]) O ⟨O,O,O,O,G⟩ G41 J47 O O O O) O (Ru (E9 [1,2]) O (G7 (hK7 (Gr (fin1 (fun r:(List Int)=>(E9 r:AV)) h))))))
  ·
   refine Gn (hK2 (Jr fun hK8=>(JLh (E9 ([]:List Int)) (Ht 1 O O) O (G7 (hK8 (Gr (fin1 (fun r:(List Int)=>(E9 r:AV)) h)))))))

def G85 (p1:Gw) (p2:Int) (ys_:List Slot):Option Unit:=
 each (fun y2 i2 (s2:Nat) nx2=>
  need (decide ((max y2.Tiers 0)≤9223372036854775807)) <|
  upto (fun i8 (s8:Nat) nx8=>
   bnd (G06 p2) fun r14=>
   each (fun y29 i29 (s29:Nat) nx29=>
    need (decide (ys_[s29]? = some (Slot.mk (i2:Int) (i8:Int) y29))) <|
    nx29 (s29+1))
   (fun(s29:Nat)=>
    nx8 s29) r14 0 s8)
  (fun(s8:Nat)=>
   nx2 s8) (max y2.Tiers 0).toNat 0 s2)
 (fun(s2:Nat)=>
  need (decide (s2=ys_.length)) (some ())) p1.Columns 0 0
theorem J07 (p1:Gw) (p2:Int) (ys_:List Slot) (q_:Unit) (h:G85 p1 p2 ys_=some q_):Iter Ej 99 [.dptr (Gw.cs p1),.dptr [U8 p2]] (ys_.map (fun y:Slot=>[.agg [G0 y.G4,G0 y.Tier,U8 y.Half]])):=by
 unfold G85 at h
 refine Iter_of Tryz.func99 O O ?_
 intro E hE hys
 refine Z3 (fun K1 hK1=>Qs (Jo (u:=Ec p1) hE (Ga J2 O O O) ?_ O O O O))
 refine Jo (u:=E3 p1.Columns) hE (Gf Ja O O O) ?_ O O O O
 refine Ja3 hE (f:=G4.av) (xs:=p1.Columns) J5 O O (fun hm11=>?_) O O O
 refine Jo (u:=G0 0) hE (G6 O O) ?_ O O O O
 refine Yu ?_
 refine hK1 _ _ _ (Gb4 ?_)
 obtain⟨b2,kx2,hb2,hkx2,h⟩:=Hx h
 refine He6 (fun i2 (s2:Nat)=>each b2 kx2 (List.drop i2 p1.Columns) i2 s2=some q_) (fun i2 s2=>[(0,.sc (.func (.yield E.lp) #[] #[])),(2,.dptr [U8 p2]),(10,E3 p1.Columns),(11,Ei p1.Columns.length),(12,Ei i2)]) (fun i2 s2=>[]) (fun i2 s2=>s2) (fun i2=>p1.Columns.length - i2) 0 0 h ⟨(by repeat' constructor),G,rfl⟩ rfl ?_
 clear h
 intro i2 s2 hi2 K2 e2
 refine Z3 (fun K3 hK3=>Qs (Jo (u:=BL (decide ((i2:Int) < (p1.Columns.length:Int)))) hE (Hz O O O) ?_ O O O O))
 refine Yu ?_
 refine hK3 _ _ _ (Z3 (fun K4 hK4=>H8d O (fun hb=>?_) (fun hb=>?_)))
 ·
  have hk2:=Jb hb
  obtain⟨y2,nx2,hy2,hn2,h⟩:=Ho hi2 hk2
  replace h:=Rw hb2 h
  refine H8c (hK4 _ _ _ (Z3 (fun K5 hK5=>Gb4 (Z3 (fun K6 hK6=>Qs (Jo (u:=Ei i2) hE (G6 O O) ?_ O O O O))))))
  refine Jo (u:=Ef y2) hE (H4 (f:=G4.av) (xs:=p1.Columns) (y:=y2) O O O J5 hy2 O) ?_ O O O O
  refine Jo (u:=.agg (G4.cs y2)) hE (Gi G44 O O O) ?_ O O O O
  refine Jo (u:=.ptr 1156 0) hE (Hn 1156 12 G17 O O) ?_ O O O O
  refine Jo (u:=Ei i2) hE (G8 O O) ?_ O O O O
  refine JIL_go0 (u:=.junk) hE (Ha (u:=.agg (G4.cs y2)) (ds:=(G4.cs y2)) Gcf O O O O O O O O) ?_ O O O
  refine Yu ?_
  refine hK6 _ _ _ (Z3 (fun K7 hK7=>Qs (Jo (u:=.ptr 1156 3) hE (Qf G9d O O) ?_ O O O O)))
  refine Jo (u:=G0 y2.Tiers) hE (Qj Gc O O O O) ?_ O O O O
  refine Jo (u:=G0 (max y2.Tiers 0)) hE (A_max O O O) ?_ O O O O
  refine Jo (u:=G0 0) hE (G6 O O) ?_ O O O O
  refine Yu ?_
  refine hK7 _ _ _ (Gb4 ?_)
  obtain⟨hx8,h⟩:=Jj h
  obtain⟨b8,kx8,hb8,hkx8,h⟩:=Gf3 h
  refine He6 (fun i8 (s8:Nat)=>upto b8 kx8 ((max y2.Tiers 0).toNat - i8) i8 s8=some q_) (fun i8 s8=>[(0,.sc (.func (.yield E.lp) #[] #[])),(2,.dptr [U8 p2]),(4,Ei i2),(10,E3 p1.Columns),(11,Ei p1.Columns.length),(12,Ei i2),(19,G0 (max y2.Tiers 0)),(20,Ei i8)]) (fun i8 s8=>[(1156,.box 63 (G4.cs y2))]) (fun i8 s8=>s8) (fun i8=>(max y2.Tiers 0).toNat - i8) 0 s2 h ⟨(by repeat' constructor),⟨⟨_,rfl,.boxL rfl (by repeat' constructor)⟩,G⟩,rfl⟩ rfl ?_
  clear h
  intro i8 s8 hi8 K8 e8
  refine Z3 (fun K9 hK9=>Qs (Jo (u:=BL (decide ((i8:Int) < (max y2.Tiers 0)))) hE (Hz O O O) ?_ O O O O))
  refine Yu ?_
  refine hK9 _ _ _ (Z3 (fun K10 hK10=>H8d O (fun hb=>?_) (fun hb=>?_)))
  ·
   have hk8:=Ga7 hb
   obtain⟨nx8,hn8,h⟩:=Ga3 hi8 hk8
   replace h:=app3 hb8 h
   refine H8c (hK10 _ _ _ (Z3 (fun K11 hK11=>Gb4 (Z3 (fun K12 hK12=>Qs (Jo (u:=Ei i8) hE (G6 O O) ?_ O O O O))))))
   refine Jo (u:=Ei i8) hE (G8 O O) ?_ O O O O
   refine Yu ?_
   refine hK12 _ _ _ (Z3 (fun K13 hK13=>Qs (Jo (u:=U8 p2) hE (Gf J6 O O O) ?_ O O O O)))
   obtain⟨r14,hr14,h⟩:=Ge h
   refine Jo (u:=E9 r14) hE (Gt O (H4b p2 r14 hr14) J5c ⟨O,O,G⟩) ?_ O O O O
   refine Ja3 hE (f:=U8) (xs:=r14) G41 O O (fun hm25=>?_) O O O
   refine Jo (u:=G0 0) hE (G6 O O) ?_ O O O O
   refine Yu ?_
   refine hK13 _ _ _ (Gb4 ?_)
   obtain⟨b29,kx29,hb29,hkx29,h⟩:=Hx h
   refine He6 (fun i29 (s29:Nat)=>each b29 kx29 (List.drop i29 r14) i29 s29=some q_) (fun i29 s29=>[(0,.sc (.func (.yield E.lp) #[] #[])),(2,.dptr [U8 p2]),(4,Ei i2),(6,Ei i8),(10,E3 p1.Columns),(11,Ei p1.Columns.length),(12,Ei i2),(19,G0 (max y2.Tiers 0)),(20,Ei i8),(24,E9 r14),(25,Ei r14.length),(26,Ei i29)]) (fun i29 s29=>[(1156,.box 63 (G4.cs y2))]) (fun i29 s29=>s29) (fun i29=>r14.length - i29) 0 s8 h ⟨(by repeat' constructor),⟨⟨_,rfl,.boxL rfl (by repeat' constructor)⟩,G⟩,rfl⟩ rfl ?_
   clear h
   intro i29 s29 hi29 K29 e29
   refine Z3 (fun K30 hK30=>Qs (Jo (u:=BL (decide ((i29:Int) < (r14.length:Int)))) hE (Hz O O O) ?_ O O O O))
   refine Yu ?_
   refine hK30 _ _ _ (Z3 (fun K31 hK31=>H8d O (fun hb=>?_) (fun hb=>?_)))
   ·
    have hk29:=Jb hb
    obtain⟨y29,nx29,hy29,hn29,h⟩:=Ho hi29 hk29
    replace h:=Rw hb29 h
    refine H8c (hK31 _ _ _ (Z3 (fun K32 hK32=>Gb4 (Z3 (fun K33 hK33=>Qs (Jo (u:=.dptr [U8 y29]) hE (H4 (f:=U8) (xs:=r14) (y:=y29) O O O G41 hy29 O) ?_ O O O O))))))
    refine Jo (u:=U8 y29) hE (Gf J6 O O O) ?_ O O O O
    refine Jo (u:=U8 y29) hE (G8 O O) ?_ O O O O
    refine Yu ?_
    refine hK33 _ _ _ (Z3 (fun K34 hK34=>Qs (Jo (u:=.sc (.func (.yield E.lp) #[] #[])) hE (G6 O O) ?_ O O O O)))
    refine Jo (u:=Ei i2) hE (G6 O O) ?_ O O O O
    refine Jo (u:=Ei i8) hE (G6 O O) ?_ O O O O
    refine Jo (u:=U8 y29) hE (G6 O O) ?_ O O O O
    refine Jo (u:=.agg [Ei i2,Ei i8,U8 y29]) hE (J8 (cs:=[Ei i2,Ei i8,U8 y29]) [(0,1),(1,1),(2,1)] [G0 0,G0 0,U8 0] [.int .i64 0,.int .i64 0,.int .u8 0] Gc2 Gce ⟨.inl O,.inl O,.inl O,G⟩ O O) ?_ O O O O
    obtain⟨ha35,h⟩:=Jj h
    refine Jbf (us:=[.agg [Ei i2,Ei i8,U8 y29]]) hE O O ⟨O,O,G⟩ (yld_at (f:=(fun y:Slot=>[.agg [G0 y.G4,G0 y.Tier,U8 y.Half]])) (x:=(Slot.mk (i2:Int) (i8:Int) y29)) hys ha35) ?_ O O O
    refine Jo (u:=BL false) hE (Rj (b:=true) O O) ?_ O O O O
    refine Yu ?_
    refine hK34 _ _ _ (JI_condF O (H8c (hK32 _ _ _ (Qs (Jo (u:=G0 ((i29+1:Nat):Int)) hE (Hu (He hk29 hm25) O O O) ?_ O O O O)))))
    refine Jo (u:=G0 ((i29+1:Nat):Int)) hE (G6 O O) ?_ O O O O
    refine Yu ?_
    exact e29 _ _ (i29+1) (s29+1) _ (app1 hn29 h) (by omega) ⟨(by repeat' constructor),⟨⟨_,rfl,.boxL rfl (by repeat' constructor)⟩,G⟩,rfl⟩ rfl
   ·
    have h:=app1 hkx29 (Hp hi29 (H7 hb))
    refine J43 (hK11 _ _ _ (Qs (Jo (u:=G0 ((i8+1:Nat):Int)) hE (Hu (He hk8 (G6c hx8)) O O O) ?_ O O O O)))
    refine Jo (u:=G0 ((i8+1:Nat):Int)) hE (G6 O O) ?_ O O O O
    refine Yu ?_
    exact e8 _ _ (i8+1) s29 _ (app1 hn8 h) (by omega) ⟨(by repeat' constructor),⟨⟨_,rfl,.boxL rfl (by repeat' constructor)⟩,G⟩,rfl⟩ rfl
  ·
   have h:=app1 hkx8 (Ga4 hi8 (Zq hb))
   refine J43 (hK5 _ _ _ (Qs (Jo (u:=G0 ((i2+1:Nat):Int)) hE (Hu (He hk2 hm11) O O O) ?_ O O O O)))
   refine Jo (u:=G0 ((i2+1:Nat):Int)) hE (G6 O O) ?_ O O O O
   refine Yu ?_
   exact e2 _ _ (i2+1) s8 _ (app1 hn2 h) (by omega) ⟨(by repeat' constructor),G,rfl⟩ rfl
 ·
  have h:=app1 hkx2 (Hp hi2 (H7 hb))
  refine J43 (yld_end (Jj h).1)
theorem J08 (S_:(Gw)→(Int)→Option (List Slot)) (hS_:∀ p1 p2 r,S_ p1 p2=some r→G85 p1 p2 r=some ()) (p1:Gw) (p2:Int) (r:List Slot) (h:S_ p1 p2=some r):Iter Ej 99 [.dptr (Gw.cs p1),.dptr [U8 p2]] (r.map (fun y:Slot=>[.agg [G0 y.G4,G0 y.Tier,U8 y.Half]])):=J07 p1 p2 r () (hS_ p1 p2 r h)

def G87 (p1:G2f) (ys_:List ((List Stowed)×(List Stowed))):Option Unit:=
 each (fun y23 i23 (s23:(List Stowed)×Nat) nx23=>
  need (decide (ys_[s23.2]? = some (s23.1,y23))) <|
  nx23 (y23,(s23.2+1)))
 (fun(s23:(List Stowed)×Nat)=>
  need (decide (s23.2=ys_.length)) (some ())) p1.States 0 ([],0)
theorem J0a (p1:G2f) (ys_:List ((List Stowed)×(List Stowed))) (q_:Unit) (h:G87 p1 ys_=some q_):Iter Ej 47 [.dptr [LS 1 (E0) p1.States,LS 1 (E1) p1.Water]] (ys_.map (fun y:(List Stowed)×(List Stowed)=>[E0 y.1,E0 y.2])):=by
 unfold G87 at h
 refine Iter_of Tryz.func47 O O ?_
 intro E hE hys
 refine Z3 (fun K1 hK1=>Qs (Jo (u:=E0 ([]:List Stowed)) hE (Ht 4 O O) ?_ O O O O))
 refine Yu ?_
 refine hK1 _ _ _ (Z3 (fun K2 hK2=>Qs (Jo (u:=.dptr [LS 1 (E0) p1.States,LS 1 (E1) p1.Water]) hE (Ga Z8 O O O) ?_ O O O O)))
 refine Jo (u:=LS 1 (E0) p1.States) hE (Gf Y2 O O O) ?_ O O O O
 refine Ja3 hE (f:=(E0)) (xs:=p1.States) J9 O O (fun hm8=>?_) O O O
 refine Jo (u:=G0 0) hE (G6 O O) ?_ O O O O
 refine Yu ?_
 refine hK2 _ _ _ (Gb4 ?_)
 obtain⟨b23,kx23,hb23,hkx23,h⟩:=Hx h
 refine He6 (fun i23 (s23:(List Stowed)×Nat)=>each b23 kx23 (List.drop i23 p1.States) i23 s23=some q_) (fun i23 s23=>[(0,.sc (.func (.yield E.lp) #[] #[])),(3,E0 s23.1),(7,LS 1 (E0) p1.States),(8,Ei p1.States.length),(9,Ei i23)]) (fun i23 s23=>[]) (fun i23 s23=>s23.2) (fun i23=>p1.States.length - i23) 0 ([],0) h ⟨(by repeat' constructor),G,rfl⟩ rfl ?_
 clear h
 intro i23 s23 hi23 K23 e23
 refine Z3 (fun K24 hK24=>Qs (Jo (u:=BL (decide ((i23:Int) < (p1.States.length:Int)))) hE (Hz O O O) ?_ O O O O))
 refine Yu ?_
 refine hK24 _ _ _ (Z3 (fun K25 hK25=>H8d O (fun hb=>?_) (fun hb=>?_)))
 ·
  have hk23:=Jb hb
  obtain⟨y23,nx23,hy23,hn23,h⟩:=Ho hi23 hk23
  replace h:=Rw hb23 h
  refine H8c (hK25 _ _ _ (Z3 (fun K26 hK26=>Gb4 (Z3 (fun K27 hK27=>Qs (Jo (u:=.dptr [E0 y23]) hE (H4 (f:=(E0)) (xs:=p1.States) (y:=y23) O O O J9 hy23 O) ?_ O O O O))))))
  refine Jo (u:=E0 y23) hE (Gf Q2 O O O) ?_ O O O O
  refine Jo (u:=E0 y23) hE (G8 O O) ?_ O O O O
  refine Yu ?_
  refine hK27 _ _ _ (Z3 (fun K28 hK28=>Z3 (fun K29 hK29=>Qs (Jo (u:=.sc (.func (.yield E.lp) #[] #[])) hE (G6 O O) ?_ O O O O))))
  refine Jo (u:=E0 s23.1) hE (G6 O O) ?_ O O O O
  refine Jo (u:=E0 y23) hE (G6 O O) ?_ O O O O
  obtain⟨ha30,h⟩:=Jj h
  refine Jbf (us:=[E0 s23.1,E0 y23]) hE O O ⟨O,O,O,O,G⟩ (yld_at (f:=(fun y:(List Stowed)×(List Stowed)=>[E0 y.1,E0 y.2])) (x:=(s23.1,y23)) hys ha30) ?_ O O O
  refine Jo (u:=BL false) hE (Rj (b:=true) O O) ?_ O O O O
  refine Yu ?_
  refine hK29 _ _ _ (JI_condF O (H8c (hK28 _ _ _ (Qs (Jo (u:=E0 y23) hE (G6 O O) ?_ O O O O)))))
  refine Jo (u:=E0 y23) hE (G8 O O) ?_ O O O O
  refine Yu ?_
  refine hK26 _ _ _ (Qs (Jo (u:=G0 ((i23+1:Nat):Int)) hE (Hu (He hk23 hm8) O O O) ?_ O O O O))
  refine Jo (u:=G0 ((i23+1:Nat):Int)) hE (G6 O O) ?_ O O O O
  refine Yu ?_
  exact e23 _ _ (i23+1) (y23,(s23.2+1)) _ (app1 hn23 h) (by omega) ⟨(by repeat' constructor),G,rfl⟩ rfl
 ·
  have h:=app1 hkx23 (Hp hi23 (H7 hb))
  refine J43 (yld_end (Jj h).1)
theorem J0b (S_:(G2f)→Option (List ((List Stowed)×(List Stowed)))) (hS_:∀ p1 r,S_ p1=some r→G87 p1 r=some ()) (p1:G2f) (r:List ((List Stowed)×(List Stowed))) (h:S_ p1=some r):Iter Ej 47 [.dptr [LS 1 (E0) p1.States,LS 1 (E1) p1.Water]] (r.map (fun y:(List Stowed)×(List Stowed)=>[E0 y.1,E0 y.2])):=J0a p1 r () (hS_ p1 r h)
end
end Go.Proofs.YtkcdjcgifgdanaaGreat
