/-
 Models of functions of the program,and that they return what the models say.
-/
import Derived.Test.YtjkmmenifdklmaaGreatSortLay
import Derived.Test.YtjkmmenifdklmaaGreatLent
set_option maxRecDepth 100000
set_option linter.unusedVariables false
set_option linter.unusedSimpArgs false
namespace Go.Proofs.YtjkmmenifdklmaaGreat
open Go.RowKit
noncomputable section
abbrev Eh:=Tryz.prog
structure Hf where
 n:Int
 low:Int
 high:Int
 deriving DecidableEq,Inhabited
def Hf.cs (x:Hf):List AV:=[G0 x.n,G0 x.low,G0 x.high]
def Hf.av (x:Hf):AV:=.agg x.cs
structure G4 where
 Bay:Int
 Row:Int
 Deck:Bool
 Tiers:Int
 Height:Int
 Kilos20:Int
 Kilos40:Int
 Lash:Int
 Plugs:List Int
 X:Int
 Y:Int
 Z:Int
 deriving DecidableEq,Inhabited
def G4.cs (x:G4):List AV:=[G0 x.Bay,G0 x.Row,BL x.Deck,G0 x.Tiers,G0 x.Height,G0 x.Kilos20,G0 x.Kilos40,G0 x.Lash,E0 x.Plugs,G0 x.X,G0 x.Y,G0 x.Z]
def G4.av (x:G4):AV:=.agg x.cs
abbrev Ec (x:G4):AV:=.dptr (G4.cs x)
abbrev E4:=LS 12 G4.av
structure Gc where
 Bay:Int
 Rows:List Int
 deriving DecidableEq,Inhabited
def Gc.cs (x:Gc):List AV:=[G0 x.Bay,E0 x.Rows]
def Gc.av (x:Gc):AV:=.agg x.cs
abbrev E3:=LS 2 Gc.av
structure Light where
 Kilos:Int
 X:Int
 Y:Int
 Z:Int
 deriving DecidableEq,Inhabited
def Light.cs (x:Light):List AV:=[G0 x.Kilos,G0 x.X,G0 x.Y,G0 x.Z]
def Light.av (x:Light):AV:=.agg x.cs
structure Row where
 Draught:Int
 Kilos:Int
 Buoy:Int
 Metacentre:Int
 Ha8:Int
 deriving DecidableEq,Inhabited
def Row.cs (x:Row):List AV:=[G0 x.Draught,G0 x.Kilos,G0 x.Buoy,G0 x.Metacentre,G0 x.Ha8]
def Row.av (x:Row):AV:=.agg x.cs
abbrev E6:=LS 5 Row.av
structure Frame where
 X:Int
 Light:Int
 Share:Int
 Shear:Int
 Bend:Int
 deriving DecidableEq,Inhabited
def Frame.cs (x:Frame):List AV:=[G0 x.X,G0 x.Light,G0 x.Share,G0 x.Shear,G0 x.Bend]
def Frame.av (x:Frame):AV:=.agg x.cs
abbrev E5:=LS 5 Frame.av
structure Gj where
 Kilos:Int
 X:Int
 Y:Int
 Z:Int
 Surface:Int
 Steps:List Int
 deriving DecidableEq,Inhabited
def Gj.cs (x:Gj):List AV:=[G0 x.Kilos,G0 x.X,G0 x.Y,G0 x.Z,G0 x.Surface,E0 x.Steps]
def Gj.av (x:Gj):AV:=.agg x.cs
abbrev Ef (x:Gj):AV:=.dptr (Gj.cs x)
abbrev E7:=LS 6 Gj.av
structure G2 where
 Tolerance:Int
 Trim:Int
 List_:Int
 Stability:Int
 deriving DecidableEq,Inhabited
def G2.cs (x:G2):List AV:=[G0 x.Tolerance,G0 x.Trim,G0 x.List_,G0 x.Stability]
def G2.av (x:G2):AV:=.agg x.cs
structure H4 where
 Columns:List G4
 Covers:List Gc
 Light:Light
 Rows:List Row
 Frames:List Frame
 Tanks:List Gj
 G2:G2
 deriving DecidableEq,Inhabited
def H4.cs (x:H4):List AV:=[E4 x.Columns,E3 x.Covers,G0 x.Light.Kilos,G0 x.Light.X,G0 x.Light.Y,G0 x.Light.Z,E6 x.Rows,E5 x.Frames,E7 x.Tanks,G0 x.G2.Tolerance,G0 x.G2.Trim,G0 x.G2.List_,G0 x.G2.Stability]
def H4.av (x:H4):AV:=.agg x.cs
abbrev Ea (x:H4):AV:=.dptr (H4.cs x)
structure H9 where
 e0:Int
 e1:Int
 e2:Int
 deriving DecidableEq,Inhabited
def H9.cs (x:H9):List AV:=[G0 x.e0,G0 x.e1,G0 x.e2]
def H9.av (x:H9):AV:=.agg x.cs
def H9.ks (x:H9):List Value:=[.int .i64 x.e0,.int .i64 x.e1,.int .i64 x.e2]
def H9.kv (x:H9):Value:=.agg x.ks.toArray
namespace XAF
theorem tq_140 (a b:H9):H4d Eh 4 140 [.int .i64 a.e0,.int .i64 a.e1,.int .i64 a.e2] [.int .i64 b.e0,.int .i64 b.e1,.int .i64 b.e2]=some (decide (a=b)):=by
 refine(show _=some ((a.e0==b.e0)&&((a.e1==b.e1)&&((a.e2==b.e2)&&true))) by kernel_rfl).trans (congrArg some ?_)
 rw [Bool.eq_iff_iff]
 simp only [Bool.and_eq_true,beq_iff_eq,decide_eq_true_eq,Bool.and_true]
 constructor
 ·intro h; obtain⟨_,_,_⟩:=a; obtain⟨_,_,_⟩:=b; simp_all
 ·intro h; subst h; simp
theorem Q5c:Gb5 Eh 168 3=true:=by kernel_rfl
theorem Rf:Gb5 Eh 78 12=true:=by kernel_rfl
theorem Rs:Gb5 Eh 80 2=true:=by kernel_rfl
theorem J9a:arrB Eh 140 3 1=true:=by kernel_rfl
theorem Q17:H8 Eh 103=true:=by kernel_rfl
theorem J42:H8 Eh 141=true:=by kernel_rfl
theorem H85:Q1 Eh 168 0 0=true:=by kernel_rfl
theorem J85:Q1 Eh 168 1 1=true:=by kernel_rfl
theorem J84:Q1 Eh 168 2 2=true:=by kernel_rfl
theorem Hd:Q1 Eh 32 0 0=true:=by kernel_rfl
theorem Je:Q1 Eh 32 1 1=true:=by kernel_rfl
theorem Zu:Q1 Eh 78 0 0=true:=by kernel_rfl
theorem Zt:Q1 Eh 78 1 1=true:=by kernel_rfl
theorem Ga7:Q1 Eh 78 10 10=true:=by kernel_rfl
theorem Ga6:Q1 Eh 78 11 11=true:=by kernel_rfl
theorem Z3:Q1 Eh 78 2 2=true:=by kernel_rfl
theorem Zs:Q1 Eh 78 3 3=true:=by kernel_rfl
theorem G13:Q1 Eh 78 4 4=true:=by kernel_rfl
theorem Gc7:Q1 Eh 78 5 5=true:=by kernel_rfl
theorem Gc6:Q1 Eh 78 6 6=true:=by kernel_rfl
theorem Gc5:Q1 Eh 78 7 7=true:=by kernel_rfl
theorem Qw:Q1 Eh 78 8 8=true:=by kernel_rfl
theorem Gc4:Q1 Eh 78 9 9=true:=by kernel_rfl
theorem Z2:Q1 Eh 80 0 0=true:=by kernel_rfl
theorem Jy:Q1 Eh 80 1 1=true:=by kernel_rfl
theorem G93:Gb2 Eh 139 140 3=true:=by kernel_rfl
theorem J8:Eh.follows .mixedOrders=true:=by kernel_rfl
theorem Y7:placesOf Eh 168=some [(0,1),(1,1),(2,1)]:=by kernel_rfl
theorem Hm:Rt Eh 22=true:=by kernel_rfl
theorem Jv:Rt Eh 23=true:=by kernel_rfl
theorem Gd:Rt Eh 3=true:=by kernel_rfl
theorem Ho:Rt Eh 35=true:=by kernel_rfl
theorem Ra:Rt Eh 4=true:=by kernel_rfl
theorem Jf5:Yj Eh 168 3=true:=by kernel_rfl
theorem Gb8:Yj Eh 78 12=true:=by kernel_rfl
theorem G91:Yj Eh 80 2=true:=by kernel_rfl
theorem Ge9:sliceB Eh 143 5 1=true:=by kernel_rfl
theorem Ge8:sliceB Eh 166 168 3=true:=by kernel_rfl
theorem H5:sliceB Eh 22 78 12=true:=by kernel_rfl
theorem Hh:sliceB Eh 23 80 2=true:=by kernel_rfl
theorem Gu:sliceB Eh 35 3 1=true:=by kernel_rfl
theorem J3d:(Eh.info? 140).bind (fun i=>i.zero.map Value.cells)=some (List.toArray [.int .i64 0,.int .i64 0,.int .i64 0]):=by kernel_rfl
theorem Zy:(Eh.info? 168).bind (fun i=>i.zero.map Value.cells)=some (List.toArray [.int .i64 0,.int .i64 0,.int .i64 0]):=by kernel_rfl
theorem H5c:Yz Eh 168 3=true:=by kernel_rfl
theorem J80:Yz Eh 5 1=true:=by kernel_rfl
theorem G59:Yz Eh 78 12=true:=by kernel_rfl
theorem G3c:Yz Eh 80 2=true:=by kernel_rfl
theorem Hb3:(Eh.info? 3).bind (·.zero)=some (.int .i64 0):=by kernel_rfl
theorem J21:H2a Eh 140 H9.kv:=H2a.of_eq H9.ks (by kernel_rfl) (fun a b h=>by simp only [H9.ks,List.cons.injEq,Value.int.injEq,Value.bool.injEq,Value.string.injEq,true_and,and_true] at h; obtain⟨_,_,_⟩:=a; obtain⟨_,_,_⟩:=b; simp_all) 4 (by decide) (fun a b=>tq_140 a b) (fun a=>by kernel_rfl) (fun a=>by simp [Instr.sameBits,H9.ks])
end XAF
open XAF

def G3a (l:List Hf):Option Bool:=
 each (fun y18 i18 (s18:Unit) nx18=>
  bif ((decide (y18.n < y18.low))||(decide (y18.high < y18.n))) then
  (some false)
  else
  (nx18 ()))
 (fun(s18:Unit)=>
  some true) l 0 ()
theorem H56 (l:List Hf) (r:Bool) (h:G3a l=some r):Pure Eh 141 [LS 3 Hf.av l] (·=BL r):=by
 unfold G3a at h
 refine Gy [.tmp 2] Tryz.func141 O O (Jr fun hK1=>(Yy (BL false) O (G7 (hK1 (Js fun hK2=>Jr fun hK3=>(Yy (LS 3 Hf.av l) O (JLl Ge8 O O O fun hm6=>(Yy (G0 0) O (G7 (hK3 (Gs ?_)))))))))))
 obtain⟨b18,kx18,hb18,hkx18,h⟩:=J5 h
 refine Hc (fun i18 (s18:Unit)=>each b18 kx18 (List.drop i18 l) i18 s18=some r) (fun i18 s18=>[(5,LS 3 Hf.av l),(6,Eg l.length),(7,Eg i18)]) (fun i18 s18=>[]) (fun i18=>l.length - i18) 0 () h ⟨⟨.same O,.same O,.same O,G⟩,G,O⟩ ?_
 clear h
 intro i18 s18 hi18 K18 e18
 refine Jr fun hK19=>(JLh (BL (decide ((i18:Int) < (l.length:Int)))) (J4 O O O) O (G7 (hK19 (Js fun hK20=>Gk O (fun hb=>?_) (fun hb=>?_)))))
 ·
  have hk18:=Jj hb
  obtain⟨y18,nx18,hy18,hn18,h⟩:=Hq hi18 hk18
  replace h:=Z1 hb18 h
  refine Gp (hK20 (Js fun hK21=>Gs (Jr fun hK22=>(JLh (.dptr [G0 y18.n,G0 y18.low,G0 y18.high]) (Gv (f:=Hf.av) (xs:=l) (y:=y18) O O O Ge8 hy18 O) O (JLh (.agg [G0 y18.n,G0 y18.low,G0 y18.high]) (Gi Q5c O O O) O (JLh (.ptr 1139 0) (Qf 1139 3 H5c O O) O (Jk (u:=.junk) (Jb (u:=.agg [G0 y18.n,G0 y18.low,G0 y18.high]) (ds:=[G0 y18.n,G0 y18.low,G0 y18.high]) Jf5 O O O O O O O O) (G7 (hK22 (Gz [(4,.dptr [G0 y18.n,G0 y18.low,G0 y18.high]),(5,LS 3 Hf.av l),(6,Eg l.length),(7,Eg i18)] [] 1139 rfl rfl rfl G rfl (by repeat' (first | exact .ptr | constructor)) ?_))))))))))
  refine Jr fun hK23=>(JLh (.dptr [G0 y18.n,G0 y18.low,G0 y18.high]) (Ga H85 O O O) O (JLh (G0 y18.n) (Gg Gd O O O) O (JLh (.dptr [G0 y18.low,G0 y18.high]) (Ga J85 O O O) O (JLh (G0 y18.low) (Gg Gd O O O) O (JLh (BL (decide (y18.n < y18.low))) (J4 O O O) O (Yy (BL (decide (y18.n < y18.low))) O (JLo (.dptr [G0 y18.n,G0 y18.low,G0 y18.high]) [] O .scf G (fun hc=>Ga H85 O O O) O (JLo (G0 y18.n) [17] O .scf ⟨Ua,G⟩ (fun hc=>Gg Gd O O O) O (JLo (.dptr [G0 y18.high]) [] O .scf G (fun hc=>Ga J84 O O O) O (JLo (G0 y18.high) [19] O .scf ⟨Ua,G⟩ (fun hc=>Gg Gd O O O) O (JLo (BL (decide (y18.high < y18.n))) [18,20] O .scf ⟨Ua,Ua,G⟩ (fun hc=>G2c O O O) O (JLh (BL ((decide (y18.n < y18.low))||(decide (y18.high < y18.n)))) (Yi O O O O) O (G7 (hK23 ?_))))))))))))))
  refine JCc O h (fun h hb=>?_) (fun h hb=>?_)
  ·
   refine Jr fun hK24=>(Yy (BL false) O (G7 (hK24 (Gr (fin1 BL h)))))
  ·
   refine Gp (hK21 (G3 (JLh (G0 ((i18+1:Nat):Int)) (Hs (He hk18 hm6) O O O) O (Yy (G0 ((i18+1:Nat):Int)) O (G7 (e18 _ _ (i18+1) () (app1 hn18 h) (by omega) ⟨⟨.same rfl,.same rfl,.same rfl,G⟩,G,rfl⟩))))))
 ·
  have h:=app1 hkx18 (Hr hi18 (Ha hb))
  refine Hi (hK2 (Jr fun hK25=>(Yy (BL true) O (G7 (hK25 (Gr (fin1 BL h)))))))

def G72 (c:G4):Option Bool:=
 each (fun y27 i27 (s27:Unit) nx27=>
  wrp (c.Tiers - 1) fun v33=>
  bnd (G3a [(Hf.mk y27 0 v33)]) fun r34=>
  bnd (bif ((!(!r34))&&(decide (0 < (i27:Int)))) then some (IntKind.i64.wrap ((i27:Int) - 1)) else some 0) fun v35=>
  bnd (bif ((!(!r34))&&(decide (0 < (i27:Int)))) then Qm c.Plugs v35 some else some default) fun y36=>
  bif ((!r34)||((decide (0 < (i27:Int)))&&(decide (y27≤y36)))) then
  (some false)
  else
  (nx27 ()))
 (fun(s27:Unit)=>
  bnd (G3a [(Hf.mk c.Bay 0 39),(Hf.mk c.Row 0 30),(Hf.mk c.Tiers 1 10),(Hf.mk c.Height 0 40000),(Hf.mk c.Kilos20 0 500000000),(Hf.mk c.Kilos40 0 500000000),(Hf.mk c.Lash 0 1000000000000),(Hf.mk c.X (-500000) 500000),(Hf.mk c.Y (-500000) 500000),(Hf.mk c.Z (-500000) 500000)]) fun r39=>
  some r39) c.Plugs 0 ()
theorem Jc2 (c:G4) (r:Bool) (h:G72 c=some r):Pure Eh 103 [.agg (G4.cs c)] (·=BL r):=by
 unfold G72 at h
 refine Gy [.tmp 2] Tryz.func103 O O (Jr fun hK1=>(JLh (.ptr 1117 0) (Ji (cs:=(G4.cs c)) 1117 O O O O O) O (Yy (BL false) O (G7 (hK1 (Gz [(1,Ec c)] [] 1117 rfl rfl rfl G rfl (by exact⟨.ptr,G⟩) (Jr fun hK2=>(Yy (.fn 141 []) O (G7 (hK2 (Js fun hK3=>Jr fun hK4=>(JLh (.dptr [E0 c.Plugs,G0 c.X,G0 c.Y,G0 c.Z]) (Ga Qw O O O) O (JLh (E0 c.Plugs) (Gg Ho O O O) O (JLl Gu O O O fun hm8=>(Yy (G0 0) O (G7 (hK4 (Gs ?_))))))))))))))))))
 obtain⟨b27,kx27,hb27,hkx27,h⟩:=J5 h
 refine Hc (fun i27 (s27:Unit)=>each b27 kx27 (List.drop i27 c.Plugs) i27 s27=some r) (fun i27 s27=>[(1,Ec c),(3,.fn 141 []),(7,E0 c.Plugs),(8,Eg c.Plugs.length),(9,Eg i27)]) (fun i27 s27=>[]) (fun i27=>c.Plugs.length - i27) 0 () h ⟨(by repeat' constructor),G,rfl⟩ ?_
 clear h
 intro i27 s27 hi27 K27 e27
 refine Jr fun hK28=>(JLh (BL (decide ((i27:Int) < (c.Plugs.length:Int)))) (J4 O O O) O (G7 (hK28 (Js fun hK29=>Gk O (fun hb=>?_) (fun hb=>?_)))))
 ·
  have hk27:=Jj hb
  obtain⟨y27,nx27,hy27,hn27,h⟩:=Hq hi27 hk27
  replace h:=Z1 hb27 h
  refine Gp (hK29 (Js fun hK30=>Gs (Jr fun hK31=>(Yy (Eg i27) O (JLh (.dptr [G0 y27]) (Gv (f:=G0) (xs:=c.Plugs) (y:=y27) O O O Gu hy27 O) O (JLh (G0 y27) (Gg Gd O O O) O (Yy (Eg i27) O (Yy (G0 y27) O (G7 (hK31 (Jr fun hK32=>(Yy (.fn 141 []) O (Yy (G0 y27) O (JLh (.dptr [G0 c.Tiers,G0 c.Height,G0 c.Kilos20,G0 c.Kilos40,G0 c.Lash,E0 c.Plugs,G0 c.X,G0 c.Y,G0 c.Z]) (Ga Zs O O O) O (JLh (G0 c.Tiers) (Gg Gd O O O) O ?_)))))))))))))))
  obtain⟨v33,hv33,h⟩:=wrp_out h
  refine JLh (G0 v33) (Gaf hv33 O O O) O (JLh (.agg [G0 y27,G0 0,G0 v33]) (Jq (cs:=[G0 y27,G0 0,G0 v33]) [(0,1),(1,1),(2,1)] [G0 0,G0 0,G0 0] [.int .i64 0,.int .i64 0,.int .i64 0] Y7 Zy ⟨.inl O,.inl O,.inl O,G⟩ O O) O (JLh (LS 3 Hf.av [(Hf.mk y27 0 v33)]) (Hn (xs:=[.agg [G0 y27,G0 0,G0 v33]]) O ⟨O,O,G⟩ Ge8 H5c O O O O) O ?_))
  obtain⟨r34,hr34,h⟩:=Ge h
  refine JLh (BL r34) (G8c (args:=[LS 3 Hf.av [(Hf.mk y27 0 v33)]]) (caps:=[]) O O (H56 [(Hf.mk y27 0 v33)] r34 hr34) J42 ⟨O,O,G⟩ O) O (JLh (BL (!r34)) (R5 (b:=r34) O O) O (Yy (BL (!r34)) O (JLo (Eg i27) [] O .scf G (fun hc=>G5 O O) O (JLo (BL (decide (0 < (i27:Int)))) [24] O .scf ⟨Ua,G⟩ (fun hc=>G2c O O O) O (JLo (BL (decide (0 < (i27:Int)))) [25] O .scf ⟨Ua,G⟩ (fun hc=>G5 O O) O (JLo (G0 y27) [] O .optt G (fun hc=>G5 O O) O (JLo (.dptr [E0 c.Plugs,G0 c.X,G0 c.Y,G0 c.Z]) [] O .optt G (fun hc=>Ga Qw O O O) O (JLo (E0 c.Plugs) [28] O .optt ⟨Ua,G⟩ (fun hc=>Gg Ho O O O) O (JLo (Eg i27) [] O .optt G (fun hc=>G5 O O) O ?_)))))))))
  obtain⟨v35,hv35,h⟩:=Ge h
  refine JLo (G0 v35) [30] O .optt ⟨Ua,G⟩ (fun hc=>Gaf (Option.some.inj (Gx hc hv35)) O O O) O ?_
  obtain⟨y36,hy36,h⟩:=Ge h
  refine JLo (.dptr [G0 y36]) [29,31] O .optt ⟨Ua,Ua,G⟩ (fun hc=>(match Q3 (Gx hc hy36) with | ⟨_,hm_,hy_⟩=>Gv (f:=G0) (xs:=c.Plugs) (y:=y36) O O O Gu hy_ hm_)) O (JLo (G0 y36) [32] O .optt ⟨Ua,G⟩ (fun hc=>Gg Gd O O O) O (JLo (BL (decide (y27≤y36))) [27,33] O .optt ⟨Ua,Ua,G⟩ (fun hc=>Hd4 O O O) O (G9 (u:=BL ((decide (0 < (i27:Int)))&&(decide (y27≤y36)))) [(26,BL (decide (0 < (i27:Int)))),(34,_)] O O O .scf ⟨.all id,.part,G⟩ (fun hc=>Hx O O O O) ?_)))
  refine JLh (BL ((!r34)||((decide (0 < (i27:Int)))&&(decide (y27≤y36))))) (Yi O O O O) O (G7 (hK32 (JCc O h (fun h hb=>?_) (fun h hb=>?_))))
  ·
   refine Jr fun hK37=>(Yy (BL false) O (G7 (hK37 (Gr (fin1 BL h)))))
  ·
   refine Gp (hK30 (G3 (JLh (G0 ((i27+1:Nat):Int)) (Hs (He hk27 hm8) O O O) O (Yy (G0 ((i27+1:Nat):Int)) O (G7 (e27 _ _ (i27+1) () (app1 hn27 h) (by omega) ⟨(by repeat' constructor),G,rfl⟩))))))
 ·
  have h:=app1 hkx27 (Hr hi27 (Ha hb))
  refine Hi (hK3 ?_)
  refine Jr fun hK38=>(Yy (.fn 141 []) O (JLh (Ec c) (Ga Zu O O O) O (JLh (G0 c.Bay) (Gg Gd O O O) O (JLh (.agg [G0 c.Bay,G0 0,G0 39]) (Jq (cs:=[G0 c.Bay,G0 0,G0 39]) [(0,1),(1,1),(2,1)] [G0 0,G0 0,G0 0] [.int .i64 0,.int .i64 0,.int .i64 0] Y7 Zy ⟨.inl O,.inl O,.inl O,G⟩ O O) O (JLh (.dptr [G0 c.Row,BL c.Deck,G0 c.Tiers,G0 c.Height,G0 c.Kilos20,G0 c.Kilos40,G0 c.Lash,E0 c.Plugs,G0 c.X,G0 c.Y,G0 c.Z]) (Ga Zt O O O) O (JLh (G0 c.Row) (Gg Gd O O O) O (JLh (.agg [G0 c.Row,G0 0,G0 30]) (Jq (cs:=[G0 c.Row,G0 0,G0 30]) [(0,1),(1,1),(2,1)] [G0 0,G0 0,G0 0] [.int .i64 0,.int .i64 0,.int .i64 0] Y7 Zy ⟨.inl O,.inl O,.inl O,G⟩ O O) O (JLh (.dptr [G0 c.Tiers,G0 c.Height,G0 c.Kilos20,G0 c.Kilos40,G0 c.Lash,E0 c.Plugs,G0 c.X,G0 c.Y,G0 c.Z]) (Ga Zs O O O) O (JLh (G0 c.Tiers) (Gg Gd O O O) O (JLh (.agg [G0 c.Tiers,G0 1,G0 10]) (Jq (cs:=[G0 c.Tiers,G0 1,G0 10]) [(0,1),(1,1),(2,1)] [G0 0,G0 0,G0 0] [.int .i64 0,.int .i64 0,.int .i64 0] Y7 Zy ⟨.inl O,.inl O,.inl O,G⟩ O O) O (JLh (.dptr [G0 c.Height,G0 c.Kilos20,G0 c.Kilos40,G0 c.Lash,E0 c.Plugs,G0 c.X,G0 c.Y,G0 c.Z]) (Ga G13 O O O) O (JLh (G0 c.Height) (Gg Gd O O O) O (JLh (.agg [G0 c.Height,G0 0,G0 40000]) (Jq (cs:=[G0 c.Height,G0 0,G0 40000]) [(0,1),(1,1),(2,1)] [G0 0,G0 0,G0 0] [.int .i64 0,.int .i64 0,.int .i64 0] Y7 Zy ⟨.inl O,.inl O,.inl O,G⟩ O O) O ?_)))))))))))))
  refine JLh (.dptr [G0 c.Kilos20,G0 c.Kilos40,G0 c.Lash,E0 c.Plugs,G0 c.X,G0 c.Y,G0 c.Z]) (Ga Gc7 O O O) O (JLh (G0 c.Kilos20) (Gg Gd O O O) O (JLh (.agg [G0 c.Kilos20,G0 0,G0 500000000]) (Jq (cs:=[G0 c.Kilos20,G0 0,G0 500000000]) [(0,1),(1,1),(2,1)] [G0 0,G0 0,G0 0] [.int .i64 0,.int .i64 0,.int .i64 0] Y7 Zy ⟨.inl O,.inl O,.inl O,G⟩ O O) O (JLh (.dptr [G0 c.Kilos40,G0 c.Lash,E0 c.Plugs,G0 c.X,G0 c.Y,G0 c.Z]) (Ga Gc6 O O O) O (JLh (G0 c.Kilos40) (Gg Gd O O O) O (JLh (.agg [G0 c.Kilos40,G0 0,G0 500000000]) (Jq (cs:=[G0 c.Kilos40,G0 0,G0 500000000]) [(0,1),(1,1),(2,1)] [G0 0,G0 0,G0 0] [.int .i64 0,.int .i64 0,.int .i64 0] Y7 Zy ⟨.inl O,.inl O,.inl O,G⟩ O O) O (JLh (.dptr [G0 c.Lash,E0 c.Plugs,G0 c.X,G0 c.Y,G0 c.Z]) (Ga Gc5 O O O) O (JLh (G0 c.Lash) (Gg Gd O O O) O (JLh (.agg [G0 c.Lash,G0 0,G0 1000000000000]) (Jq (cs:=[G0 c.Lash,G0 0,G0 1000000000000]) [(0,1),(1,1),(2,1)] [G0 0,G0 0,G0 0] [.int .i64 0,.int .i64 0,.int .i64 0] Y7 Zy ⟨.inl O,.inl O,.inl O,G⟩ O O) O (JLh (.dptr [G0 c.X,G0 c.Y,G0 c.Z]) (Ga Gc4 O O O) O (JLh (G0 c.X) (Gg Gd O O O) O (JLh (.agg [G0 c.X,G0 (-500000),G0 500000]) (Jq (cs:=[G0 c.X,G0 (-500000),G0 500000]) [(0,1),(1,1),(2,1)] [G0 0,G0 0,G0 0] [.int .i64 0,.int .i64 0,.int .i64 0] Y7 Zy ⟨.inl O,.inl O,.inl O,G⟩ O O) O (JLh (.dptr [G0 c.Y,G0 c.Z]) (Ga Ga7 O O O) O (JLh (G0 c.Y) (Gg Gd O O O) O ?_)))))))))))))
  refine JLh (.agg [G0 c.Y,G0 (-500000),G0 500000]) (Jq (cs:=[G0 c.Y,G0 (-500000),G0 500000]) [(0,1),(1,1),(2,1)] [G0 0,G0 0,G0 0] [.int .i64 0,.int .i64 0,.int .i64 0] Y7 Zy ⟨.inl O,.inl O,.inl O,G⟩ O O) O (JLh (.dptr [G0 c.Z]) (Ga Ga6 O O O) O (JLh (G0 c.Z) (Gg Gd O O O) O (JLh (.agg [G0 c.Z,G0 (-500000),G0 500000]) (Jq (cs:=[G0 c.Z,G0 (-500000),G0 500000]) [(0,1),(1,1),(2,1)] [G0 0,G0 0,G0 0] [.int .i64 0,.int .i64 0,.int .i64 0] Y7 Zy ⟨.inl O,.inl O,.inl O,G⟩ O O) O (JLh (LS 3 Hf.av [(Hf.mk c.Bay 0 39),(Hf.mk c.Row 0 30),(Hf.mk c.Tiers 1 10),(Hf.mk c.Height 0 40000),(Hf.mk c.Kilos20 0 500000000),(Hf.mk c.Kilos40 0 500000000),(Hf.mk c.Lash 0 1000000000000),(Hf.mk c.X (-500000) 500000),(Hf.mk c.Y (-500000) 500000),(Hf.mk c.Z (-500000) 500000)]) (Hn (xs:=[.agg [G0 c.Bay,G0 0,G0 39],.agg [G0 c.Row,G0 0,G0 30],.agg [G0 c.Tiers,G0 1,G0 10],.agg [G0 c.Height,G0 0,G0 40000],.agg [G0 c.Kilos20,G0 0,G0 500000000],.agg [G0 c.Kilos40,G0 0,G0 500000000],.agg [G0 c.Lash,G0 0,G0 1000000000000],.agg [G0 c.X,G0 (-500000),G0 500000],.agg [G0 c.Y,G0 (-500000),G0 500000],.agg [G0 c.Z,G0 (-500000),G0 500000]]) O ⟨O,O,O,O,O,O,O,O,O,O,O,O,O,O,O,O,O,O,O,O,G⟩ Ge8 H5c O O O O) O ?_))))
  obtain⟨r39,hr39,h⟩:=Ge h
  refine JLh (BL r39) (G8c (args:=[LS 3 Hf.av [(Hf.mk c.Bay 0 39),(Hf.mk c.Row 0 30),(Hf.mk c.Tiers 1 10),(Hf.mk c.Height 0 40000),(Hf.mk c.Kilos20 0 500000000),(Hf.mk c.Kilos40 0 500000000),(Hf.mk c.Lash 0 1000000000000),(Hf.mk c.X (-500000) 500000),(Hf.mk c.Y (-500000) 500000),(Hf.mk c.Z (-500000) 500000)]]) (caps:=[]) O O (H56 [(Hf.mk c.Bay 0 39),(Hf.mk c.Row 0 30),(Hf.mk c.Tiers 1 10),(Hf.mk c.Height 0 40000),(Hf.mk c.Kilos20 0 500000000),(Hf.mk c.Kilos40 0 500000000),(Hf.mk c.Lash 0 1000000000000),(Hf.mk c.X (-500000) 500000),(Hf.mk c.Y (-500000) 500000),(Hf.mk c.Z (-500000) 500000)] r39 hr39) J42 ⟨O,O,G⟩ O) O (Yy (BL r39) O (G7 (hK38 (Gr (fin1 BL h)))))

def Gad (s:H4) (Rp:Bool→Prop):Option Prop:=
 bif (((decide ((s.Columns.length:Int) < 1))||(decide (200 < (s.Columns.length:Int))))||(decide (40 < (s.Covers.length:Int)))) then
 (some (Rp false))
 else
 (each (fun y68 i68 (s68:(Hw H9 Int)) nx68=>
   jp (fun kj74=>
    bif y68.Deck then
    (kj74 1)
    else
    (kj74 0)) fun(j74:Int)=>
   bnd (some (Hw.get s68 (H9.mk y68.Bay y68.Row j74) 0)) fun v77=>
   G1f (v77+1) fun v78=>
   bnd (G72 y68) fun r80=>
   bif (!r80) then
   (some (Rp false))
   else
   (nx68 (Hw.put s68 (H9.mk y68.Bay y68.Row j74) v78)))
  (fun(s68:(Hw H9 Int))=>
   each (fun y84 i84 (s84:(Hw H9 Int)) nx84=>
    bif (((decide (y84.Bay < 0))||(decide (40≤y84.Bay)))||(decide ((y84.Rows.length:Int)=0))) then
    (some (Rp false))
    else
    (each (fun y157 i157 (s157:(Hw H9 Int)) nx157=>
      bnd (bif ((!((decide (y157 < 0))||(decide (30 < y157))))&&(decide (0 < (i157:Int)))) then G1f ((i157:Int) - 1) some else some 0) fun v164=>
      bnd (bif ((!((decide (y157 < 0))||(decide (30 < y157))))&&(decide (0 < (i157:Int)))) then Qm y84.Rows v164 some else some default) fun y165=>
      bif (((decide (y157 < 0))||(decide (30 < y157)))||((decide (0 < (i157:Int)))&&(decide (y157≤y165)))) then
      (some (Rp false))
      else
      (bnd (some (Hw.get s157 (H9.mk y84.Bay y157 2) 0)) fun v167=>
       G1f (v167+1) fun v168=>
       nx157 (Hw.put s157 (H9.mk y84.Bay y157 2) v168)))
     (fun(s157:(Hw H9 Int))=>
      nx84 s157) y84.Rows 0 s84))
   (fun(s84:(Hw H9 Int))=>
    eachM (fun(x176:H9×Int) (s176:Unit) nx176=>
     bif decide (1 < x176.2) then
     (lft (some (Rp false)))
     else
     (nx176 ()))
    (fun(s176:Unit)=>
     some (Rp true)) (Hw.l s84) ()) s.Covers 0 s68) s.Columns 0 (Hw.empty:Hw H9 Int))
def Gf9 (s:H4):Option Bool:=
 bif (((decide ((s.Columns.length:Int) < 1))||(decide (200 < (s.Columns.length:Int))))||(decide (40 < (s.Covers.length:Int)))) then
 (some (id false))
 else
 (each (fun y68 i68 (s68:(Hw H9 Int)) nx68=>
   jp (fun kj74=>
    bif y68.Deck then
    (kj74 1)
    else
    (kj74 0)) fun(j74:Int)=>
   bnd (some (Hw.get s68 (H9.mk y68.Bay y68.Row j74) 0)) fun v77=>
   G1f (v77+1) fun v78=>
   bnd (G72 y68) fun r80=>
   bif (!r80) then
   (some (id false))
   else
   (nx68 (Hw.put s68 (H9.mk y68.Bay y68.Row j74) v78)))
  (fun(s68:(Hw H9 Int))=>
   each (fun y84 i84 (s84:(Hw H9 Int)) nx84=>
    bif (((decide (y84.Bay < 0))||(decide (40≤y84.Bay)))||(decide ((y84.Rows.length:Int)=0))) then
    (some (id false))
    else
    (each (fun y157 i157 (s157:(Hw H9 Int)) nx157=>
      bnd (bif ((!((decide (y157 < 0))||(decide (30 < y157))))&&(decide (0 < (i157:Int)))) then G1f ((i157:Int) - 1) some else some 0) fun v164=>
      bnd (bif ((!((decide (y157 < 0))||(decide (30 < y157))))&&(decide (0 < (i157:Int)))) then Qm y84.Rows v164 some else some default) fun y165=>
      bif (((decide (y157 < 0))||(decide (30 < y157)))||((decide (0 < (i157:Int)))&&(decide (y157≤y165)))) then
      (some (id false))
      else
      (bnd (some (Hw.get s157 (H9.mk y84.Bay y157 2) 0)) fun v167=>
       G1f (v167+1) fun v168=>
       nx157 (Hw.put s157 (H9.mk y84.Bay y157 2) v168)))
     (fun(s157:(Hw H9 Int))=>
      nx84 s157) y84.Rows 0 s84))
   (fun(s84:(Hw H9 Int))=>
    J0a (fun(x176:H9×Int) (s176:Unit) nx176=>
     bif decide (1 < x176.2) then
     (lft (some (id false)))
     else
     (nx176 ()))
    (fun(s176:Unit)=>
     some (id true)) (Hw.l s84) ()) s.Covers 0 s68) s.Columns 0 (Hw.empty:Hw H9 Int))
theorem Jc4 (s:H4) (Rp:Bool→Prop) (p:Prop) (h:Gad s Rp=some p) (hp:p):Pure Eh 51 [.agg (H4.cs s)] (fun av=>∃ r,Rp r∧av=BL r):=by
 unfold Gad at h
 refine Gy [.tmp 2] Tryz.func51 O O (Jr fun hK1=>(JLh (.ptr 1060 0) (Ji (cs:=(H4.cs s)) 1060 O O O O O) O (Yy (BL false) O (G7 (hK1 (Gz [(1,Ea s)] [] 1060 rfl rfl rfl G rfl (by exact⟨.ptr,G⟩) (Js fun hK2=>?_)))))))
 refine Jr fun hK3=>(JLh (Ea s) (Ga Hd O O O) O (JLh (E4 s.Columns) (Gg Hm O O O) O (JLl H5 O O O fun hm15=>(JLh (BL (decide ((s.Columns.length:Int) < 1))) (J4 O O O) O (Yy (BL (decide ((s.Columns.length:Int) < 1))) O (JLo (Ea s) [] O .scf G (fun hc=>Ga Hd O O O) O (JLo (E4 s.Columns) [18] O .scf ⟨Ua,G⟩ (fun hc=>Gg Hm O O O) O (JLo (Eg s.Columns.length) [19] O .scf ⟨Ua,G⟩ (fun hc=>Qi (f:=G4.av) (xs:=s.Columns) H5 O O) O (JLo (BL (decide (200 < (s.Columns.length:Int)))) [20] O .scf ⟨Ua,G⟩ (fun hc=>G2c O O O) O (JLh (BL ((decide ((s.Columns.length:Int) < 1))||(decide (200 < (s.Columns.length:Int))))) (Yi O O O O) O (Yy (BL ((decide ((s.Columns.length:Int) < 1))||(decide (200 < (s.Columns.length:Int))))) O (JLo (.dptr [E3 s.Covers,G0 s.Light.Kilos,G0 s.Light.X,G0 s.Light.Y,G0 s.Light.Z,E6 s.Rows,E5 s.Frames,E7 s.Tanks,G0 s.G2.Tolerance,G0 s.G2.Trim,G0 s.G2.List_,G0 s.G2.Stability]) [] O .scf G (fun hc=>Ga Je O O O) O (JLo (E3 s.Covers) [24] O .scf ⟨Ua,G⟩ (fun hc=>Gg Jv O O O) O ?_)))))))))))))
 refine JLo (Eg s.Covers.length) [25] O .scf ⟨Ua,G⟩ (fun hc=>Qi (f:=Gc.av) (xs:=s.Covers) Hh O O) O (JLo (BL (decide (40 < (s.Covers.length:Int)))) [26] O .scf ⟨Ua,G⟩ (fun hc=>G2c O O O) O (JLh (BL (((decide ((s.Columns.length:Int) < 1))||(decide (200 < (s.Columns.length:Int))))||(decide (40 < (s.Covers.length:Int))))) (Yi O O O O) O (G7 (hK3 (JCc O h (fun h hb=>?_) (fun h hb=>?_))))))
 ·
  refine Jr fun hK4=>(Yy (BL false) O (G7 (hK4 (Gr (⟨[BL false],[],G,O,⟨⟨_,O,.conv (.same O)⟩,G⟩,O,false,Eq.mpr (Option.some.inj h) hp,O⟩)))))
 ·
  refine Gp (hK2 (Jr fun hK5=>(JLh (.mp 1063) (Jcf 1063 H9.kv G0 O O) O (Yy (.mp 1063) O (G7 (hK5 (Js fun hK6=>Jr fun hK7=>(JLh (Ea s) (Ga Hd O O O) O (JLh (E4 s.Columns) (Gg Hm O O O) O (JLl H5 O O O fun hm32=>(Yy (G0 0) O (G7 (hK7 (Gs ?_))))))))))))))
  obtain⟨b68,kx68,hb68,hkx68,h⟩:=J5 h
  refine Hc (fun i68 (s68:(Hw H9 Int))=>each b68 kx68 (List.drop i68 s.Columns) i68 s68=some p) (fun i68 s68=>[(1,Ea s),(3,.mp 1063),(31,E4 s.Columns),(32,Eg s.Columns.length),(33,Eg i68)]) (fun i68 s68=>[(1063,MP 139 H9.kv G0 s68)]) (fun i68=>s.Columns.length - i68) 0 (Hw.empty:Hw H9 Int) h ⟨(by repeat' constructor),⟨⟨_,rfl,.map⟩,G⟩,rfl⟩ ?_
  clear h
  intro i68 s68 hi68 K68 e68
  refine Jr fun hK69=>(JLh (BL (decide ((i68:Int) < (s.Columns.length:Int)))) (J4 O O O) O (G7 (hK69 (Js fun hK70=>Gk O (fun hb=>?_) (fun hb=>?_)))))
  ·
   have hk68:=Jj hb
   obtain⟨y68,nx68,hy68,hn68,h⟩:=Hq hi68 hk68
   replace h:=Z1 hb68 h
   refine Gp (hK70 (Js fun hK71=>Gs (Jr fun hK72=>(JLh (Ec y68) (Gv (f:=G4.av) (xs:=s.Columns) (y:=y68) O O O H5 hy68 O) O (JLh (.agg (G4.cs y68)) (Gi Rf O O O) O (JLh (.ptr 1061 0) (Qf 1061 12 G59 O O) O (Jk (u:=.junk) (Jb (u:=.agg (G4.cs y68)) (ds:=(G4.cs y68)) Gb8 O O O O O O O O) (G7 (hK72 ?_)))))))))
   refine Gz [(1,Ea s),(3,.mp 1063),(5,Ec y68),(31,E4 s.Columns),(32,Eg s.Columns.length),(33,Eg i68)] [(1063,MP 139 H9.kv G0 s68)] 1061 rfl rfl rfl ⟨⟨_,rfl,.map⟩,G⟩ rfl (by repeat' (first | exact .ptr | constructor)) (Jr fun hK73=>(Yy (G0 0) O (G7 (hK73 ?_))))
   obtain⟨kj74,hkj74,h⟩:=Gbf h
   refine G73 (fun j74:Int=>kj74 j74=some p) (fun j74=>[(1,Ea s),(3,.mp 1063),(5,Ec y68),(6,G0 j74),(31,E4 s.Columns),(32,Eg s.Columns.length),(33,Eg i68)]) (fun j74=>[(1063,MP 139 H9.kv G0 s68)]) (fun Kj74 ej74=>?_) ?_
   ·
    refine Jr fun hK75=>(JLh (.dptr ((G4.cs y68).drop 2)) (Ga Z3 O O O) O (JLh (BL y68.Deck) (Gg Ra O O O) O (G7 (hK75 (JCc O h (fun h hb=>?_) (fun h hb=>?_))))))
    ·
     refine G3 (Yy (G0 1) O (G7 (ej74 _ _ 1 h ⟨(by repeat' constructor),⟨⟨_,rfl,.map⟩,G⟩,rfl⟩)))
    ·
     refine Gp (ej74 _ _ 0 h ⟨(by repeat' constructor),⟨⟨_,rfl,.map⟩,G⟩,rfl⟩)
   ·intro j74 h
    replace h:=app1 hkj74 h
    refine Js fun hK76=>G44 (l':=[(1,Ea s),(3,.mp 1063),(5,Ec y68),(6,G0 j74),(31,E4 s.Columns),(32,Eg s.Columns.length),(33,Eg i68)]) (L':=[(1063,MP 139 H9.kv G0 s68)]) ⟨(by repeat' constructor),⟨⟨_,rfl,.map⟩,G⟩,rfl⟩ ?_
    obtain⟨v77,hv77,h⟩:=Ge h
    obtain⟨v78,hv78,h⟩:=Qq h
    refine Ja [9,11] [0,0,0,0,0,0,0,0,0,0,1,0] [0,0,0,0,0,0,0,1,1,0,1,0] [[(1063,MP 139 H9.kv G0 s68)],((1063,MI 139 H9.kv G0 s68 (H9.mk y68.Bay y68.Row j74) 0)::[(1063,MP 139 H9.kv G0 s68)]),((1063,MP 139 H9.kv G0 (Hw.put s68 (H9.mk y68.Bay y68.Row j74) v78))::((1063,MI 139 H9.kv G0 s68 (H9.mk y68.Bay y68.Row j74) 0)::[(1063,MP 139 H9.kv G0 s68)]))] J8 (by kernel_rfl) rfl rfl ?_
    refine Gb (u:=.mp 1063) O O ⟨Gq (G5 O O) O,G⟩ (Gb (u:=Ec y68) O O ⟨Gq (Ga Zu O O O) O,G⟩ (Gb (u:=G0 y68.Bay) O O ⟨Gq (Gg Gd O O O) O,G⟩ (Gb (u:=.dptr ((G4.cs y68).drop 1)) O O ⟨Gq (Ga Zt O O O) O,G⟩ (Gb (u:=G0 y68.Row) O O ⟨Gq (Gg Gd O O O) O,G⟩ (Gb (u:=G0 j74) O O ⟨Gq (G5 O O) O,G⟩ (Gb (u:=.agg [G0 y68.Bay,G0 y68.Row,G0 j74]) O O ⟨Gq (Hf9 (cs:=[G0 y68.Bay,G0 y68.Row,G0 j74]) [.int .i64 0,.int .i64 0,.int .i64 0] J9a J3d O O) O,G⟩ (Gb (u:=G0 v77) O O ⟨Gq (((Option.some.inj hv77) ▸ Jd1 (av:=G0) (m:=s68) (a:=(H9.mk y68.Bay y68.Row j74)) 0 (.int .i64 0) O O O O J21 G93 Hb3 O)) O,Gq (((Option.some.inj hv77) ▸ Jd0 (av:=G0) (m:=s68) (a:=(H9.mk y68.Bay y68.Row j74)) 0 (.int .i64 0) O O O O J21 G93 Hb3 O)) O,G⟩ (Gb (u:=G0 v78) O O ⟨Gq (Hs hv78 O O O) O,Gq (Hs hv78 O O O) O,G⟩ (D_w (u:=.tup [.junk,G0 (G27 (Hw.l s68) (H9.mk y68.Bay y68.Row j74):Int)]) O O O O (Gq (J64 (m:=s68) (a:=(H9.mk y68.Bay y68.Row j74)) 0 (.int .i64 0) O O O O J21 G93 Hb3 O) O) (Gb (u:=G0 (G27 (Hw.l s68) (H9.mk y68.Bay y68.Row j74):Int)) O O ⟨Gq (Hv O O O) O,G⟩ (D_w0 (u:=.junk) O O O O (Gq (Hd5 (m:=s68) (a:=(H9.mk y68.Bay y68.Row j74)) (v:=v78) 0 O O O O O O) O) (Qz ?_))))))))))))
    refine hK76 (Jr fun hK79=>(JLh (.agg (G4.cs y68)) (Gi Rf O O O) O ?_))
    obtain⟨r80,hr80,h⟩:=Ge h
    refine JLh (BL r80) (Gn O (Jc2 y68 r80 hr80) Q17 ⟨O,O,G⟩) O (JLh (BL (!r80)) (R5 (b:=r80) O O) O (G7 (hK79 (JCc O h (fun h hb=>?_) (fun h hb=>?_)))))
    ·
     refine Jr fun hK81=>(Yy (BL false) O (G7 (hK81 (Gr (⟨[BL false],[],G,O,⟨⟨_,O,.conv (.same O)⟩,G⟩,O,false,Eq.mpr (Option.some.inj h) hp,O⟩)))))
    ·
     refine Gp (hK71 (G3 (JLh (G0 ((i68+1:Nat):Int)) (Hs (He hk68 hm32) O O O) O (Yy (G0 ((i68+1:Nat):Int)) O (G7 (e68 _ _ (i68+1) (Hw.put s68 (H9.mk y68.Bay y68.Row j74) v78) (app1 hn68 h) (by omega) ⟨(by repeat' constructor),⟨⟨_,rfl,.map⟩,G⟩,rfl⟩))))))
  ·
   have h:=app1 hkx68 (Hr hi68 (Ha hb))
   refine Hi (hK6 (Js fun hK82=>Jr fun hK83=>(JLh (.dptr [E3 s.Covers,G0 s.Light.Kilos,G0 s.Light.X,G0 s.Light.Y,G0 s.Light.Z,E6 s.Rows,E5 s.Frames,E7 s.Tanks,G0 s.G2.Tolerance,G0 s.G2.Trim,G0 s.G2.List_,G0 s.G2.Stability]) (Ga Je O O O) O (JLh (E3 s.Covers) (Gg Jv O O O) O (JLl Hh O O O fun hm56=>(Yy (G0 0) O (G7 (hK83 (Gs ?_)))))))))
   obtain⟨b84,kx84,hb84,hkx84,h⟩:=J5 h
   refine Hc (fun i84 (s84:(Hw H9 Int))=>each b84 kx84 (List.drop i84 s.Covers) i84 s84=some p) (fun i84 s84=>[(3,.mp 1063),(55,E3 s.Covers),(56,Eg s.Covers.length),(57,Eg i84)]) (fun i84 s84=>[(1063,MP 139 H9.kv G0 s84)]) (fun i84=>s.Covers.length - i84) 0 s68 h ⟨(by repeat' constructor),⟨⟨_,rfl,.map⟩,G⟩,rfl⟩ ?_
   clear h
   intro i84 s84 hi84 K84 e84
   refine Jr fun hK85=>(JLh (BL (decide ((i84:Int) < (s.Covers.length:Int)))) (J4 O O O) O (G7 (hK85 (Js fun hK86=>Gk O (fun hb=>?_) (fun hb=>?_)))))
   ·
    have hk84:=Jj hb
    obtain⟨y84,nx84,hy84,hn84,h⟩:=Hq hi84 hk84
    replace h:=Z1 hb84 h
    refine Gp (hK86 (Js fun hK87=>Gs (Jr fun hK88=>(JLh (.dptr [G0 y84.Bay,E0 y84.Rows]) (Gv (f:=Gc.av) (xs:=s.Covers) (y:=y84) O O O Hh hy84 O) O (JLh (.agg [G0 y84.Bay,E0 y84.Rows]) (Gi Rs O O O) O (JLh (.ptr 1062 0) (Qf 1062 2 G3c O O) O (Jk (u:=.junk) (Jb (u:=.agg [G0 y84.Bay,E0 y84.Rows]) (ds:=[G0 y84.Bay,E0 y84.Rows]) G91 O O O O O O O O) (G7 (hK88 (Gz [(3,.mp 1063),(8,.dptr [G0 y84.Bay,E0 y84.Rows]),(55,E3 s.Covers),(56,Eg s.Covers.length),(57,Eg i84)] [(1063,MP 139 H9.kv G0 s84)] 1062 rfl rfl rfl ⟨⟨_,rfl,.map⟩,G⟩ rfl (by repeat' (first | exact .ptr | constructor)) (Js fun hK89=>?_)))))))))))
    refine Jr fun hK90=>(JLh (.dptr [G0 y84.Bay,E0 y84.Rows]) (Ga Z2 O O O) O (JLh (G0 y84.Bay) (Gg Gd O O O) O (JLh (BL (decide (y84.Bay < 0))) (J4 O O O) O (Yy (BL (decide (y84.Bay < 0))) O (JLo (.dptr [G0 y84.Bay,E0 y84.Rows]) [] O .scf G (fun hc=>Ga Z2 O O O) O (JLo (G0 y84.Bay) [65] O .scf ⟨Ua,G⟩ (fun hc=>Gg Gd O O O) O (JLo (BL (decide (40≤y84.Bay))) [66] O .scf ⟨Ua,G⟩ (fun hc=>G17 O O O) O (JLh (BL ((decide (y84.Bay < 0))||(decide (40≤y84.Bay)))) (Yi O O O O) O (Yy (BL ((decide (y84.Bay < 0))||(decide (40≤y84.Bay)))) O (JLo (.dptr [E0 y84.Rows]) [] O .scf G (fun hc=>Ga Jy O O O) O (JLo (E0 y84.Rows) [70] O .scf ⟨Ua,G⟩ (fun hc=>Gg Ho O O O) O (JLo (Eg y84.Rows.length) [71] O .scf ⟨Ua,G⟩ (fun hc=>Qi (f:=G0) (xs:=y84.Rows) Gu O O) O (JLo (BL (decide ((y84.Rows.length:Int)=0))) [72] O .scf ⟨Ua,G⟩ (fun hc=>Jt O O O) O ?_)))))))))))))
    refine JLh (BL (((decide (y84.Bay < 0))||(decide (40≤y84.Bay)))||(decide ((y84.Rows.length:Int)=0)))) (Yi O O O O) O (G7 (hK90 (JCc O h (fun h hb=>?_) (fun h hb=>?_))))
    ·
     refine Jr fun hK91=>(Yy (BL false) O (G7 (hK91 (Gr (⟨[BL false],[],G,O,⟨⟨_,O,.conv (.same O)⟩,G⟩,O,false,Eq.mpr (Option.some.inj h) hp,O⟩)))))
    ·
     refine Gp (hK89 (Jr fun hK92=>(JLh (.dptr [E0 y84.Rows]) (Ga Jy O O O) O (JLh (E0 y84.Rows) (Gg Ho O O O) O (JLl Gu O O O fun hm77=>(Yy (G0 0) O (G7 (hK92 (Gs ?_)))))))))
     obtain⟨b157,kx157,hb157,hkx157,h⟩:=J5 h
     refine Hc (fun i157 (s157:(Hw H9 Int))=>each b157 kx157 (List.drop i157 y84.Rows) i157 s157=some p) (fun i157 s157=>[(3,.mp 1063),(8,.dptr [G0 y84.Bay,E0 y84.Rows]),(55,E3 s.Covers),(56,Eg s.Covers.length),(57,Eg i84),(76,E0 y84.Rows),(77,Eg y84.Rows.length),(78,Eg i157)]) (fun i157 s157=>[(1063,MP 139 H9.kv G0 s157)]) (fun i157=>y84.Rows.length - i157) 0 s84 h ⟨(by repeat' constructor),⟨⟨_,rfl,.map⟩,G⟩,rfl⟩ ?_
     clear h
     intro i157 s157 hi157 K157 e157
     refine Jr fun hK158=>(JLh (BL (decide ((i157:Int) < (y84.Rows.length:Int)))) (J4 O O O) O (G7 (hK158 (Js fun hK159=>Gk O (fun hb=>?_) (fun hb=>?_)))))
     ·
      have hk157:=Jj hb
      obtain⟨y157,nx157,hy157,hn157,h⟩:=Hq hi157 hk157
      replace h:=Z1 hb157 h
      refine Gp (hK159 (Js fun hK160=>Gs (Jr fun hK161=>(Yy (Eg i157) O (JLh (.dptr [G0 y157]) (Gv (f:=G0) (xs:=y84.Rows) (y:=y157) O O O Gu hy157 O) O (JLh (G0 y157) (Gg Gd O O O) O (Yy (Eg i157) O (Yy (G0 y157) O (G7 (hK161 (Js fun hK162=>?_)))))))))))
      refine Jr fun hK163=>(Yy (G0 y157) O (JLh (BL (decide (y157 < 0))) (J4 O O O) O (Yy (BL (decide (y157 < 0))) O (JLo (G0 y157) [] O .scf G (fun hc=>G5 O O) O (JLo (BL (decide (30 < y157))) [86] O .scf ⟨Ua,G⟩ (fun hc=>G2c O O O) O (JLh (BL ((decide (y157 < 0))||(decide (30 < y157)))) (Yi O O O O) O (Yy (BL ((decide (y157 < 0))||(decide (30 < y157)))) O (JLo (Eg i157) [] O .scf G (fun hc=>G5 O O) O (JLo (BL (decide (0 < (i157:Int)))) [90] O .scf ⟨Ua,G⟩ (fun hc=>G2c O O O) O (JLo (BL (decide (0 < (i157:Int)))) [91] O .scf ⟨Ua,G⟩ (fun hc=>G5 O O) O (JLo (G0 y157) [] O .optt G (fun hc=>G5 O O) O (JLo (.dptr [E0 y84.Rows]) [] O .optt G (fun hc=>Ga Jy O O O) O (JLo (E0 y84.Rows) [94] O .optt ⟨Ua,G⟩ (fun hc=>Gg Ho O O O) O ?_)))))))))))))
      refine JLo (Eg i157) [] O .optt G (fun hc=>G5 O O) O ?_
      obtain⟨v164,hv164,h⟩:=Ge h
      refine JLo (G0 v164) [96] O .optt ⟨Ua,G⟩ (fun hc=>Gaf (Z7 (Gx hc hv164)) O O O) O ?_
      obtain⟨y165,hy165,h⟩:=Ge h
      refine JLo (.dptr [G0 y165]) [95,97] O .optt ⟨Ua,Ua,G⟩ (fun hc=>(match Q3 (Gx hc hy165) with | ⟨_,hm_,hy_⟩=>Gv (f:=G0) (xs:=y84.Rows) (y:=y165) O O O Gu hy_ hm_)) O (JLo (G0 y165) [98] O .optt ⟨Ua,G⟩ (fun hc=>Gg Gd O O O) O (JLo (BL (decide (y157≤y165))) [93,99] O .optt ⟨Ua,Ua,G⟩ (fun hc=>Hd4 O O O) O (G9 (u:=BL ((decide (0 < (i157:Int)))&&(decide (y157≤y165)))) [(92,BL (decide (0 < (i157:Int)))),(100,_)] O O O .scf ⟨.all id,.part,G⟩ (fun hc=>Hx O O O O) ?_)))
      refine JLh (BL (((decide (y157 < 0))||(decide (30 < y157)))||((decide (0 < (i157:Int)))&&(decide (y157≤y165))))) (Yi O O O O) O (G7 (hK163 (JCc O h (fun h hb=>?_) (fun h hb=>?_))))
      ·
       refine Jr fun hK166=>(Yy (BL false) O (G7 (hK166 (Gr (⟨[BL false],[],G,O,⟨⟨_,O,.conv (.same O)⟩,G⟩,O,false,Eq.mpr (Option.some.inj h) hp,O⟩)))))
      ·
       refine Gp (hK162 (G44 (l':=[(3,.mp 1063),(8,.dptr [G0 y84.Bay,E0 y84.Rows]),(10,G0 y157),(55,E3 s.Covers),(56,Eg s.Covers.length),(57,Eg i84),(76,E0 y84.Rows),(77,Eg y84.Rows.length),(78,Eg i157)]) (L':=[(1063,MP 139 H9.kv G0 s157)]) ⟨(by repeat' constructor),⟨⟨_,rfl,.map⟩,G⟩,rfl⟩ ?_))
       obtain⟨v167,hv167,h⟩:=Ge h
       obtain⟨v168,hv168,h⟩:=Qq h
       refine Ja [7,9] [0,0,0,0,0,0,0,0,1,0] [0,0,0,0,0,1,1,0,1,0] [[(1063,MP 139 H9.kv G0 s157)],((1063,MI 139 H9.kv G0 s157 (H9.mk y84.Bay y157 2) 0)::[(1063,MP 139 H9.kv G0 s157)]),((1063,MP 139 H9.kv G0 (Hw.put s157 (H9.mk y84.Bay y157 2) v168))::((1063,MI 139 H9.kv G0 s157 (H9.mk y84.Bay y157 2) 0)::[(1063,MP 139 H9.kv G0 s157)]))] J8 (by kernel_rfl) rfl rfl ?_
       refine Gb (u:=.mp 1063) O O ⟨Gq (G5 O O) O,G⟩ (Gb (u:=.dptr [G0 y84.Bay,E0 y84.Rows]) O O ⟨Gq (Ga Z2 O O O) O,G⟩ (Gb (u:=G0 y84.Bay) O O ⟨Gq (Gg Gd O O O) O,G⟩ (Gb (u:=G0 y157) O O ⟨Gq (G5 O O) O,G⟩ (Gb (u:=.agg [G0 y84.Bay,G0 y157,G0 2]) O O ⟨Gq (Hf9 (cs:=[G0 y84.Bay,G0 y157,G0 2]) [.int .i64 0,.int .i64 0,.int .i64 0] J9a J3d O O) O,G⟩ (Gb (u:=G0 v167) O O ⟨Gq (((Option.some.inj hv167) ▸ Jd1 (av:=G0) (m:=s157) (a:=(H9.mk y84.Bay y157 2)) 0 (.int .i64 0) O O O O J21 G93 Hb3 O)) O,Gq (((Option.some.inj hv167) ▸ Jd0 (av:=G0) (m:=s157) (a:=(H9.mk y84.Bay y157 2)) 0 (.int .i64 0) O O O O J21 G93 Hb3 O)) O,G⟩ (Gb (u:=G0 v168) O O ⟨Gq (Hs hv168 O O O) O,Gq (Hs hv168 O O O) O,G⟩ (D_w (u:=.tup [.junk,G0 (G27 (Hw.l s157) (H9.mk y84.Bay y157 2):Int)]) O O O O (Gq (J64 (m:=s157) (a:=(H9.mk y84.Bay y157 2)) 0 (.int .i64 0) O O O O J21 G93 Hb3 O) O) (Gb (u:=G0 (G27 (Hw.l s157) (H9.mk y84.Bay y157 2):Int)) O O ⟨Gq (Hv O O O) O,G⟩ (D_w0 (u:=.junk) O O O O (Gq (Hd5 (m:=s157) (a:=(H9.mk y84.Bay y157 2)) (v:=v168) 0 O O O O O O) O) (Qz ?_))))))))))
       refine hK160 (G3 (JLh (G0 ((i157+1:Nat):Int)) (Hs (He hk157 hm77) O O O) O (Yy (G0 ((i157+1:Nat):Int)) O (G7 (e157 _ _ (i157+1) (Hw.put s157 (H9.mk y84.Bay y157 2) v168) (app1 hn157 h) (by omega) ⟨(by repeat' constructor),⟨⟨_,rfl,.map⟩,G⟩,rfl⟩)))))
     ·
      have h:=app1 hkx157 (Hr hi157 (Ha hb))
      refine Hi (hK87 (G3 (JLh (G0 ((i84+1:Nat):Int)) (Hs (He hk84 hm56) O O O) O (Yy (G0 ((i84+1:Nat):Int)) O (G7 (e84 _ _ (i84+1) s157 (app1 hn84 h) (by omega) ⟨(by repeat' constructor),⟨⟨_,rfl,.map⟩,G⟩,rfl⟩))))))
   ·
    have h:=app1 hkx84 (Hr hi84 (Ha hb))
    refine Hi (hK82 (Js fun hK169=>Jr fun hK170=>(Yy (.mp 1063) O (JLh (.it 1064) (Q23 1064 (m:=s84) O O O O G93) O (G7 (hK170 (Gs ?_)))))))
    obtain⟨b176,kx176,hb176,hkx176,h⟩:=eachM_in h
    refine Q1d (Hw.size s84) (fun i176 (s176:Unit)=>MInv b176 kx176 (Hw.l s84) i176 s176) (fun i176 s176=>[(115,.it 1064)]) (fun i176 s176=>[(1063,MP 139 H9.kv G0 s84),(1064,.iter 1063 (Hw.size s84) i176)]) () (MInv.start h hp) ⟨⟨.same O,G⟩,⟨⟨_,O,.map⟩,⟨_,O,.iter O⟩,G⟩,O⟩ ?_
    clear h hp
    intro i176 s176 hi176 K176 e176
    refine Jr fun hK177=>H7b O O O (A_nextM (m:=s84) O O O O) ?_
    intro u_ L_ hn_
    rcases hn_ with ⟨q176,x176,he176,hs176,rfl,rfl⟩ | ⟨ha176,rfl,rfl⟩
    ·
     obtain⟨o176,h,ho1_176,ho2_176⟩:=hi176.step he176 hs176
     replace h:=J15 hb176 h
     refine JLh (BL true) (Hv O O O) O (G7 (hK177 (Js fun hK178=>Q1e O (Gp (hK178 (Gs (Jr fun hK179=>(JLh (.tup [.agg (H9.cs x176.1),G0 x176.2]) (Q28 (kv:=H9.kv) (av:=G0) (m:=s84) (q:=q176) (seen:=i176) (e:=x176) O O O O he176) O (JLh (G0 x176.2) (Hv O O O) O (Yy (G0 x176.2) O (G7 (hK179 (Jr fun hK180=>(Yy (G0 x176.2) O (JLh (BL (decide (1 < x176.2))) (G2c O O O) O (G7 (hK180 (JCc O h (fun h hb=>?_) (fun h hb=>?_)))))))))))))))))))
     ·
      refine Jr fun hK181=>(Yy (BL false) O (G7 (hK181 (Gr ?_))))
      obtain⟨y_,hy_,hl_⟩:=lft_out h
      exact⟨[BL false],[],G,O,⟨⟨_,O,.conv (.same O)⟩,G⟩,O,false,Eq.mpr (Option.some.inj hl_) (ho1_176 y_ hy_),O⟩
     ·
      refine Gp (e176 _ _ (i176++[q176]) () (ho2_176 _ (Option.some.inj h).symm) (unseen_lt (List.getElem?_eq_some_iff.1 he176).1 hs176) ⟨⟨.same O,G⟩,⟨⟨_,O,.map⟩,⟨_,O,.iter O⟩,G⟩,O⟩)
    ·
     obtain⟨p_,h,hp⟩:=hi176.done ha176
     replace h:=app1 hkx176 h
     refine JLh (BL false) (Hv O O O) O (G7 (hK177 (Js fun hK182=>Q1f O (Hi (hK169 (Jr fun hK183=>(Yy (BL true) O (G7 (hK183 (Gr (⟨[BL true],[],G,O,⟨⟨_,O,.conv (.same O)⟩,G⟩,O,true,Eq.mpr (Option.some.inj h) hp,O⟩)))))))))))
theorem Jc5 (S_:(H4)→Option Bool) (hS_:∀ s r,S_ s=some r→∃ p:Prop,Gad s (fun r_=>r_=r)=some p∧p) (s:H4) (r:Bool) (h:S_ s=some r):Pure Eh 51 [.agg (H4.cs s)] (·=BL r):=by
 obtain⟨p,h1,h2⟩:=hS_ s r h
 exact(Jc4 s _ p h1 h2).monoP (fun av hh=>by obtain⟨r_,rfl,ha⟩:=hh; exact ha)

def G89 (size:Int):Option (List Int):=
 bif decide (size=40) then
 (some [0])
 else
 (bif decide (size=20) then
  (some [1,2])
  else
  (some []))
theorem J6e (size:Int) (r:(List Int)) (h:G89 size=some r):Pure Eh 105 [U8 size] (·=E9 r):=by
 unfold G89 at h
 refine Gy [.tmp 2] Tryz.func105 O O (Jr fun hK1=>(JLh (E9 ([]:List Int)) (Hy 1 O O) O (G7 (hK1 (Js fun hK2=>Jr fun hK3=>(Yy (U8 size) O (G7 (hK3 (Gs (Jr fun hK4=>(JLh (BL (decide (size=40))) (Jt O O O) O (Yy (BL (decide (size=40))) O (G7 (hK4 (JCc O h (fun h hb=>?_) (fun h hb=>?_))))))))))))))))
 ·
  refine Jr fun hK5=>(JLh (E9 [0]) (Hn (xs:=[U8 0]) O ⟨O,O,G⟩ Ge9 J80 O O O O) O (Yy (E9 [0]) O (G7 (hK5 (Gr (fin1 (fun r:(List Int)=>(E9 r:AV)) h))))))
 ·
  refine Jr fun hK6=>(JLh (BL (decide (size=20))) (Jt O O O) O (Yy (BL (decide (size=20))) O (G7 (hK6 (JCc O h (fun h hb=>?_) (fun h hb=>?_))))))
  ·
   refine Jr fun hK7=>(JLh (E9 [1,2]) (Hn (xs:=[U8 1,U8 2]) O ⟨O,O,O,O,G⟩ Ge9 J80 O O O O) O (Yy (E9 [1,2]) O (G7 (hK7 (Gr (fin1 (fun r:(List Int)=>(E9 r:AV)) h))))))
  ·
   refine Gp (hK2 (Jr fun hK8=>(JLh (E9 ([]:List Int)) (Hy 1 O O) O (G7 (hK8 (Gr (fin1 (fun r:(List Int)=>(E9 r:AV)) h)))))))
end
end Go.Proofs.YtjkmmenifdklmaaGreat
