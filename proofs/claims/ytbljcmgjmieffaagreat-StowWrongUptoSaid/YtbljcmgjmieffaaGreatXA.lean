/-
 Models of functions of the program,and that they return what the models say.
-/
import Derived.Test.YtbljcmgjmieffaaGreatSortLay
import Derived.Test.YtbljcmgjmieffaaGreatFres
set_option linter.unnecessarySimpa false
set_option maxRecDepth 100000
set_option linter.unusedVariables false
set_option linter.unusedSimpArgs false
namespace Go.Proofs.YtbljcmgjmieffaaGreat
open Go.RowKit
noncomputable section
abbrev Ek:=Tryz.prog
structure Hc where
 n:Int
 low:Int
 high:Int
 deriving DecidableEq,Inhabited
def Hc.cs (x:Hc):List AV:=[G0 x.n,G0 x.low,G0 x.high]
def Hc.av (x:Hc):AV:=.agg x.cs
structure G3 where
 Bay:Int
 Row:Int
 Deck:Bool
 Tiers:Int
 Height:Int
 Kilos20:Int
 Kilos40:Int
 Lash:Int
 Plugs:List Int
 X:Int
 Y:Int
 Z:Int
 deriving DecidableEq,Inhabited
def G3.cs (x:G3):List AV:=[G0 x.Bay,G0 x.Row,BL x.Deck,G0 x.Tiers,G0 x.Height,G0 x.Kilos20,G0 x.Kilos40,G0 x.Lash,E0 x.Plugs,G0 x.X,G0 x.Y,G0 x.Z]
def G3.av (x:G3):AV:=.agg x.cs
abbrev Ee (x:G3):AV:=.dptr (G3.cs x)
abbrev E7:=LS 12 G3.av
structure G9 where
 Bay:Int
 Rows:List Int
 deriving DecidableEq,Inhabited
def G9.cs (x:G9):List AV:=[G0 x.Bay,E0 x.Rows]
def G9.av (x:G9):AV:=.agg x.cs
abbrev E3:=LS 2 G9.av
structure Light where
 Kilos:Int
 X:Int
 Y:Int
 Z:Int
 deriving DecidableEq,Inhabited
def Light.cs (x:Light):List AV:=[G0 x.Kilos,G0 x.X,G0 x.Y,G0 x.Z]
def Light.av (x:Light):AV:=.agg x.cs
structure Row where
 Draught:Int
 Kilos:Int
 Buoy:Int
 Metacentre:Int
 Turn:Int
 deriving DecidableEq,Inhabited
def Row.cs (x:Row):List AV:=[G0 x.Draught,G0 x.Kilos,G0 x.Buoy,G0 x.Metacentre,G0 x.Turn]
def Row.av (x:Row):AV:=.agg x.cs
abbrev E4:=LS 5 Row.av
structure Frame where
 X:Int
 Light:Int
 Share:Int
 Shear:Int
 Bend:Int
 deriving DecidableEq,Inhabited
def Frame.cs (x:Frame):List AV:=[G0 x.X,G0 x.Light,G0 x.Share,G0 x.Shear,G0 x.Bend]
def Frame.av (x:Frame):AV:=.agg x.cs
abbrev E5:=LS 5 Frame.av
structure Gp where
 Kilos:Int
 X:Int
 Y:Int
 Z:Int
 Surface:Int
 Steps:List Int
 deriving DecidableEq,Inhabited
def Gp.cs (x:Gp):List AV:=[G0 x.Kilos,G0 x.X,G0 x.Y,G0 x.Z,G0 x.Surface,E0 x.Steps]
def Gp.av (x:Gp):AV:=.agg x.cs
abbrev E6:=LS 6 Gp.av
structure G2 where
 Tolerance:Int
 Trim:Int
 List_:Int
 Stability:Int
 deriving DecidableEq,Inhabited
def G2.cs (x:G2):List AV:=[G0 x.Tolerance,G0 x.Trim,G0 x.List_,G0 x.Stability]
def G2.av (x:G2):AV:=.agg x.cs
structure Gr where
 Columns:List G3
 Covers:List G9
 Light:Light
 Rows:List Row
 Frames:List Frame
 Tanks:List Gp
 G2:G2
 deriving DecidableEq,Inhabited
def Gr.cs (x:Gr):List AV:=[E7 x.Columns,E3 x.Covers,G0 x.Light.Kilos,G0 x.Light.X,G0 x.Light.Y,G0 x.Light.Z,E4 x.Rows,E5 x.Frames,E6 x.Tanks,G0 x.G2.Tolerance,G0 x.G2.Trim,G0 x.G2.List_,G0 x.G2.Stability]
def Gr.av (x:Gr):AV:=.agg x.cs
abbrev Ec (x:Gr):AV:=.dptr (Gr.cs x)
structure H8 where
 e0:Int
 e1:Int
 e2:Int
 deriving DecidableEq,Inhabited
def H8.cs (x:H8):List AV:=[G0 x.e0,G0 x.e1,G0 x.e2]
def H8.av (x:H8):AV:=.agg x.cs
def H8.ks (x:H8):List Value:=[.int .i64 x.e0,.int .i64 x.e1,.int .i64 x.e2]
def H8.kv (x:H8):Value:=.agg x.ks.toArray
structure Slot where
 G3:Int
 Tier:Int
 Half:Int
 deriving DecidableEq,Inhabited
def Slot.cs (x:Slot):List AV:=[G0 x.G3,G0 x.Tier,U8 x.Half]
def Slot.av (x:Slot):AV:=.agg x.cs
abbrev Ei (x:Slot):AV:=.dptr (Slot.cs x)
abbrev E8:=LS 3 Slot.av
namespace XAF
theorem tq_133 (a b:H8):H85 Ek 4 133 [.int .i64 a.e0,.int .i64 a.e1,.int .i64 a.e2] [.int .i64 b.e0,.int .i64 b.e1,.int .i64 b.e2]=some (decide (a=b)):=by
 refine(show _=some ((a.e0==b.e0)&&((a.e1==b.e1)&&((a.e2==b.e2)&&true))) by kernel_rfl).trans (congrArg some ?_)
 rw [Bool.eq_iff_iff]
 simp only [Bool.and_eq_true,beq_iff_eq,decide_eq_true_eq,Bool.and_true]
 constructor
 ·intro h; obtain⟨_,_,_⟩:=a; obtain⟨_,_,_⟩:=b; simp_all
 ·intro h; subst h; simp
theorem Jda:Gaa Ek 158 3=true:=by kernel_rfl
theorem Ys:Gaa Ek 55 12=true:=by kernel_rfl
theorem Gfa:Gaa Ek 70 2=true:=by kernel_rfl
theorem J3a:arrB Ek 133 3 1=true:=by kernel_rfl
theorem J29:Hf Ek 68=true:=by kernel_rfl
theorem Jc1:Hf Ek 72=true:=by kernel_rfl
theorem J24:Hf Ek 99=true:=by kernel_rfl
theorem H30:Ju Ek 158 0 0=true:=by kernel_rfl
theorem J1d:Ju Ek 158 1 1=true:=by kernel_rfl
theorem J1c:Ju Ek 158 2 2=true:=by kernel_rfl
theorem Ho:Ju Ek 36 0 0=true:=by kernel_rfl
theorem Hx:Ju Ek 36 1 1=true:=by kernel_rfl
theorem Zw:Ju Ek 55 0 0=true:=by kernel_rfl
theorem Zv:Ju Ek 55 1 1=true:=by kernel_rfl
theorem H2f:Ju Ek 55 10 10=true:=by kernel_rfl
theorem Gc5:Ju Ek 55 11 11=true:=by kernel_rfl
theorem Rf:Ju Ek 55 2 2=true:=by kernel_rfl
theorem G93:Ju Ek 55 3 3=true:=by kernel_rfl
theorem Gf2:Ju Ek 55 4 4=true:=by kernel_rfl
theorem J7d:Ju Ek 55 5 5=true:=by kernel_rfl
theorem J7c:Ju Ek 55 6 6=true:=by kernel_rfl
theorem J7b:Ju Ek 55 7 7=true:=by kernel_rfl
theorem H68:Ju Ek 55 8 8=true:=by kernel_rfl
theorem H67:Ju Ek 55 9 9=true:=by kernel_rfl
theorem Z4:Ju Ek 70 0 0=true:=by kernel_rfl
theorem Yb:Ju Ek 70 1 1=true:=by kernel_rfl
theorem G60:G76 Ek 132 133 3=true:=by kernel_rfl
theorem Jx:Ek.follows .mixedOrders=true:=by kernel_rfl
theorem Re:placesOf Ek 158=some [(0,1),(1,1),(2,1)]:=by kernel_rfl
theorem G15:placesOf Ek 45=some [(0,1),(1,1),(2,1)]:=by kernel_rfl
theorem J1:Rr Ek 26=true:=by kernel_rfl
theorem J9:Rr Ek 27=true:=by kernel_rfl
theorem Gg:Rr Ek 3=true:=by kernel_rfl
theorem Jw:Rr Ek 4=true:=by kernel_rfl
theorem R2:Rr Ek 43=true:=by kernel_rfl
theorem Hy:Rr Ek 5=true:=by kernel_rfl
theorem J94:Rn Ek 158 3=true:=by kernel_rfl
theorem G5f:Rn Ek 55 12=true:=by kernel_rfl
theorem J17:Rn Ek 70 2=true:=by kernel_rfl
theorem G3e:sliceB Ek 128 5 1=true:=by kernel_rfl
theorem Gb1:sliceB Ek 156 158 3=true:=by kernel_rfl
theorem Hs:sliceB Ek 26 55 12=true:=by kernel_rfl
theorem J7:sliceB Ek 27 70 2=true:=by kernel_rfl
theorem Gq:sliceB Ek 43 3 1=true:=by kernel_rfl
theorem Hdd:(Ek.info? 133).bind (fun i=>i.zero.map Value.cells)=some (List.toArray [.int .i64 0,.int .i64 0,.int .i64 0]):=by kernel_rfl
theorem Ym:(Ek.info? 158).bind (fun i=>i.zero.map Value.cells)=some (List.toArray [.int .i64 0,.int .i64 0,.int .i64 0]):=by kernel_rfl
theorem G5e:(Ek.info? 45).bind (fun i=>i.zero.map Value.cells)=some (List.toArray [.int .i64 0,.int .i64 0,.int .u8 0]):=by kernel_rfl
theorem H0b:Qu Ek 158 3=true:=by kernel_rfl
theorem J16:Qu Ek 5 1=true:=by kernel_rfl
theorem Z2:Qu Ek 55 12=true:=by kernel_rfl
theorem G9a:Qu Ek 70 2=true:=by kernel_rfl
theorem Ge0:(Ek.info? 3).bind (·.zero)=some (.int .i64 0):=by kernel_rfl
theorem Hbb:Gdf Ek 133 H8.kv:=Gdf.of_eq H8.ks (by kernel_rfl) (fun a b h=>by simp only [H8.ks,List.cons.injEq,Value.int.injEq,Value.bool.injEq,Value.string.injEq,true_and,and_true] at h; obtain⟨_,_,_⟩:=a; obtain⟨_,_,_⟩:=b; simp_all) 4 (by decide) (fun a b=>tq_133 a b) (fun a=>by kernel_rfl) (fun a=>by simp [Instr.sameBits,H8.ks])
end XAF
open XAF

def G0e (l:List Hc):Option Bool:=
 each (fun y18 i18 (s18:Unit) nx18=>
  bif ((decide (y18.n < y18.low))||(decide (y18.high < y18.n))) then
  (some false)
  else
  (nx18 ()))
 (fun(s18:Unit)=>
  some true) l 0 ()
theorem H02 (l:List Hc) (r:Bool) (h:G0e l=some r):Pure Ek 99 [LS 3 Hc.av l] (·=BL r):=by
 unfold G0e at h
 refine H7 [.tmp 2] Tryz.func99 O O (Jr fun hK1=>(Rt (BL false) O (G7 (hK1 (Js fun hK2=>Jr fun hK3=>(Rt (LS 3 Hc.av l) O (JLl Gb1 O O O fun hm6=>(Rt (G0 0) O (G7 (hK3 (H1 ?_)))))))))))
 obtain⟨b18,kx18,hb18,hkx18,h⟩:=Jj h
 refine J3 (fun i18 (s18:Unit)=>each b18 kx18 (List.drop i18 l) i18 s18=some r) (fun i18 s18=>[(5,LS 3 Hc.av l),(6,Ej l.length),(7,Ej i18)]) (fun i18 s18=>[]) (fun i18=>l.length - i18) 0 () h ⟨⟨.same O,.same O,.same O,G⟩,G,O⟩ ?_
 clear h
 intro i18 s18 hi18 K18 e18
 refine Jr fun hK19=>(JLh (BL (decide ((i18:Int) < (l.length:Int)))) (Q0 O O O) O (G7 (hK19 (Js fun hK20=>Gn O (fun hb=>?_) (fun hb=>?_)))))
 ·
  have hk18:=Qd hb
  obtain⟨y18,nx18,hy18,hn18,h⟩:=J4 hi18 hk18
  replace h:=Zz hb18 h
  refine Gs (hK20 (Js fun hK21=>H1 (Jr fun hK22=>(JLh (.dptr [G0 y18.n,G0 y18.low,G0 y18.high]) (Ha (f:=Hc.av) (xs:=l) (y:=y18) O O O Gb1 hy18 O) O (JLh (.agg [G0 y18.n,G0 y18.low,G0 y18.high]) (Gh Jda O O O) O (JLh (.ptr 1127 0) (Ht 1127 3 H0b O O) O (Hu (u:=.junk) (Hj (u:=.agg [G0 y18.n,G0 y18.low,G0 y18.high]) (ds:=[G0 y18.n,G0 y18.low,G0 y18.high]) J94 O O O O O O O O) (G7 (hK22 (Gt [(4,.dptr [G0 y18.n,G0 y18.low,G0 y18.high]),(5,LS 3 Hc.av l),(6,Ej l.length),(7,Ej i18)] [] 1127 rfl rfl rfl G rfl (by repeat' (first | exact .ptr | constructor)) ?_))))))))))
  refine Jr fun hK23=>(JLh (.dptr [G0 y18.n,G0 y18.low,G0 y18.high]) (Gd H30 O O O) O (JLh (G0 y18.n) (Gj Gg O O O) O (JLh (.dptr [G0 y18.low,G0 y18.high]) (Gd J1d O O O) O (JLh (G0 y18.low) (Gj Gg O O O) O (JLh (BL (decide (y18.n < y18.low))) (Q0 O O O) O (Rt (BL (decide (y18.n < y18.low))) O (JLo (.dptr [G0 y18.n,G0 y18.low,G0 y18.high]) [] O .scf G (fun hc=>Gd H30 O O O) O (JLo (G0 y18.n) [17] O .scf ⟨Ua,G⟩ (fun hc=>Gj Gg O O O) O (JLo (.dptr [G0 y18.high]) [] O .scf G (fun hc=>Gd J1c O O O) O (JLo (G0 y18.high) [19] O .scf ⟨Ua,G⟩ (fun hc=>Gj Gg O O O) O (JLo (BL (decide (y18.high < y18.n))) [18,20] O .scf ⟨Ua,Ua,G⟩ (fun hc=>Gae O O O) O (JLh (BL ((decide (y18.n < y18.low))||(decide (y18.high < y18.n)))) (G11 O O O O) O (G7 (hK23 ?_))))))))))))))
  refine JCc O h (fun h hb=>?_) (fun h hb=>?_)
  ·
   refine Jr fun hK24=>(Rt (BL false) O (G7 (hK24 (Gw (fin1 BL h)))))
  ·
   refine Gs (hK21 (G4 (JLh (G0 ((i18+1:Nat):Int)) (J0 (Hv hk18 hm6) O O O) O (Rt (G0 ((i18+1:Nat):Int)) O (G7 (e18 _ _ (i18+1) () (app1 hn18 h) (by omega) ⟨⟨.same rfl,.same rfl,.same rfl,G⟩,G,rfl⟩))))))
 ·
  have h:=app1 hkx18 (J5 hi18 (Hi hb))
  refine J8 (hK2 (Jr fun hK25=>(Rt (BL true) O (G7 (hK25 (Gw (fin1 BL h)))))))

def G49 (c:G3):Option Bool:=
 each (fun y27 i27 (s27:Unit) nx27=>
  wrp (c.Tiers - 1) fun v33=>
  bnd (G0e [(Hc.mk y27 0 v33)]) fun r34=>
  bnd (bif ((!(!r34))&&(decide (0 < (i27:Int)))) then some (IntKind.i64.wrap ((i27:Int) - 1)) else some 0) fun v35=>
  bnd (bif ((!(!r34))&&(decide (0 < (i27:Int)))) then Y9 c.Plugs v35 some else some default) fun y36=>
  bif ((!r34)||((decide (0 < (i27:Int)))&&(decide (y27≤y36)))) then
  (some false)
  else
  (nx27 ()))
 (fun(s27:Unit)=>
  bnd (G0e [(Hc.mk c.Bay 0 39),(Hc.mk c.Row 0 30),(Hc.mk c.Tiers 1 10),(Hc.mk c.Height 0 40000),(Hc.mk c.Kilos20 0 500000000),(Hc.mk c.Kilos40 0 500000000),(Hc.mk c.Lash 0 1000000000000),(Hc.mk c.X (-500000) 500000),(Hc.mk c.Y (-500000) 500000),(Hc.mk c.Z (-500000) 500000)]) fun r39=>
  some r39) c.Plugs 0 ()
theorem J68 (c:G3) (r:Bool) (h:G49 c=some r):Pure Ek 72 [.agg (G3.cs c)] (·=BL r):=by
 unfold G49 at h
 refine H7 [.tmp 2] Tryz.func72 O O (Jr fun hK1=>(JLh (.ptr 1111 0) (Q9 (cs:=(G3.cs c)) 1111 O O O O O) O (Rt (BL false) O (G7 (hK1 (Gt [(1,Ee c)] [] 1111 rfl rfl rfl G rfl (by exact⟨.ptr,G⟩) (Jr fun hK2=>(Rt (.fn 99 []) O (G7 (hK2 (Js fun hK3=>Jr fun hK4=>(JLh (.dptr [E0 c.Plugs,G0 c.X,G0 c.Y,G0 c.Z]) (Gd H68 O O O) O (JLh (E0 c.Plugs) (Gj R2 O O O) O (JLl Gq O O O fun hm8=>(Rt (G0 0) O (G7 (hK4 (H1 ?_))))))))))))))))))
 obtain⟨b27,kx27,hb27,hkx27,h⟩:=Jj h
 refine J3 (fun i27 (s27:Unit)=>each b27 kx27 (List.drop i27 c.Plugs) i27 s27=some r) (fun i27 s27=>[(1,Ee c),(3,.fn 99 []),(7,E0 c.Plugs),(8,Ej c.Plugs.length),(9,Ej i27)]) (fun i27 s27=>[]) (fun i27=>c.Plugs.length - i27) 0 () h ⟨(by repeat' constructor),G,rfl⟩ ?_
 clear h
 intro i27 s27 hi27 K27 e27
 refine Jr fun hK28=>(JLh (BL (decide ((i27:Int) < (c.Plugs.length:Int)))) (Q0 O O O) O (G7 (hK28 (Js fun hK29=>Gn O (fun hb=>?_) (fun hb=>?_)))))
 ·
  have hk27:=Qd hb
  obtain⟨y27,nx27,hy27,hn27,h⟩:=J4 hi27 hk27
  replace h:=Zz hb27 h
  refine Gs (hK29 (Js fun hK30=>H1 (Jr fun hK31=>(Rt (Ej i27) O (JLh (.dptr [G0 y27]) (Ha (f:=G0) (xs:=c.Plugs) (y:=y27) O O O Gq hy27 O) O (JLh (G0 y27) (Gj Gg O O O) O (Rt (Ej i27) O (Rt (G0 y27) O (G7 (hK31 (Jr fun hK32=>(Rt (.fn 99 []) O (Rt (G0 y27) O (JLh (.dptr [G0 c.Tiers,G0 c.Height,G0 c.Kilos20,G0 c.Kilos40,G0 c.Lash,E0 c.Plugs,G0 c.X,G0 c.Y,G0 c.Z]) (Gd G93 O O O) O (JLh (G0 c.Tiers) (Gj Gg O O O) O ?_)))))))))))))))
  obtain⟨v33,hv33,h⟩:=wrp_out h
  refine JLh (G0 v33) (H06 hv33 O O O) O (JLh (.agg [G0 y27,G0 0,G0 v33]) (Hg (cs:=[G0 y27,G0 0,G0 v33]) [(0,1),(1,1),(2,1)] [G0 0,G0 0,G0 0] [.int .i64 0,.int .i64 0,.int .i64 0] Re Ym ⟨.inl O,.inl O,.inl O,G⟩ O O) O (JLh (LS 3 Hc.av [(Hc.mk y27 0 v33)]) (H5 (xs:=[.agg [G0 y27,G0 0,G0 v33]]) O ⟨O,O,G⟩ Gb1 H0b O O O O) O ?_))
  obtain⟨r34,hr34,h⟩:=Gf h
  refine JLh (BL r34) (G10 (args:=[LS 3 Hc.av [(Hc.mk y27 0 v33)]]) (caps:=[]) O O (H02 [(Hc.mk y27 0 v33)] r34 hr34) J24 ⟨O,O,G⟩ O) O (JLh (BL (!r34)) (Zs (b:=r34) O O) O (Rt (BL (!r34)) O (JLo (Ej i27) [] O .scf G (fun hc=>G5 O O) O (JLo (BL (decide (0 < (i27:Int)))) [24] O .scf ⟨Ua,G⟩ (fun hc=>Gae O O O) O (JLo (BL (decide (0 < (i27:Int)))) [25] O .scf ⟨Ua,G⟩ (fun hc=>G5 O O) O (JLo (G0 y27) [] O .optt G (fun hc=>G5 O O) O (JLo (.dptr [E0 c.Plugs,G0 c.X,G0 c.Y,G0 c.Z]) [] O .optt G (fun hc=>Gd H68 O O O) O (JLo (E0 c.Plugs) [28] O .optt ⟨Ua,G⟩ (fun hc=>Gj R2 O O O) O (JLo (Ej i27) [] O .optt G (fun hc=>G5 O O) O ?_)))))))))
  obtain⟨v35,hv35,h⟩:=Gf h
  refine JLo (G0 v35) [30] O .optt ⟨Ua,G⟩ (fun hc=>H06 (Option.some.inj (H6 hc hv35)) O O O) O ?_
  obtain⟨y36,hy36,h⟩:=Gf h
  refine JLo (.dptr [G0 y36]) [29,31] O .optt ⟨Ua,Ua,G⟩ (fun hc=>(match Za (H6 hc hy36) with | ⟨_,hm_,hy_⟩=>Ha (f:=G0) (xs:=c.Plugs) (y:=y36) O O O Gq hy_ hm_)) O (JLo (G0 y36) [32] O .optt ⟨Ua,G⟩ (fun hc=>Gj Gg O O O) O (JLo (BL (decide (y27≤y36))) [27,33] O .optt ⟨Ua,Ua,G⟩ (fun hc=>Hfb O O O) O (Gc (u:=BL ((decide (0 < (i27:Int)))&&(decide (y27≤y36)))) [(26,BL (decide (0 < (i27:Int)))),(34,_)] O O O .scf ⟨.all id,.part,G⟩ (fun hc=>Q1 O O O O) ?_)))
  refine JLh (BL ((!r34)||((decide (0 < (i27:Int)))&&(decide (y27≤y36))))) (G11 O O O O) O (G7 (hK32 (JCc O h (fun h hb=>?_) (fun h hb=>?_))))
  ·
   refine Jr fun hK37=>(Rt (BL false) O (G7 (hK37 (Gw (fin1 BL h)))))
  ·
   refine Gs (hK30 (G4 (JLh (G0 ((i27+1:Nat):Int)) (J0 (Hv hk27 hm8) O O O) O (Rt (G0 ((i27+1:Nat):Int)) O (G7 (e27 _ _ (i27+1) () (app1 hn27 h) (by omega) ⟨(by repeat' constructor),G,rfl⟩))))))
 ·
  have h:=app1 hkx27 (J5 hi27 (Hi hb))
  refine J8 (hK3 ?_)
  refine Jr fun hK38=>(Rt (.fn 99 []) O (JLh (Ee c) (Gd Zw O O O) O (JLh (G0 c.Bay) (Gj Gg O O O) O (JLh (.agg [G0 c.Bay,G0 0,G0 39]) (Hg (cs:=[G0 c.Bay,G0 0,G0 39]) [(0,1),(1,1),(2,1)] [G0 0,G0 0,G0 0] [.int .i64 0,.int .i64 0,.int .i64 0] Re Ym ⟨.inl O,.inl O,.inl O,G⟩ O O) O (JLh (.dptr [G0 c.Row,BL c.Deck,G0 c.Tiers,G0 c.Height,G0 c.Kilos20,G0 c.Kilos40,G0 c.Lash,E0 c.Plugs,G0 c.X,G0 c.Y,G0 c.Z]) (Gd Zv O O O) O (JLh (G0 c.Row) (Gj Gg O O O) O (JLh (.agg [G0 c.Row,G0 0,G0 30]) (Hg (cs:=[G0 c.Row,G0 0,G0 30]) [(0,1),(1,1),(2,1)] [G0 0,G0 0,G0 0] [.int .i64 0,.int .i64 0,.int .i64 0] Re Ym ⟨.inl O,.inl O,.inl O,G⟩ O O) O (JLh (.dptr [G0 c.Tiers,G0 c.Height,G0 c.Kilos20,G0 c.Kilos40,G0 c.Lash,E0 c.Plugs,G0 c.X,G0 c.Y,G0 c.Z]) (Gd G93 O O O) O (JLh (G0 c.Tiers) (Gj Gg O O O) O (JLh (.agg [G0 c.Tiers,G0 1,G0 10]) (Hg (cs:=[G0 c.Tiers,G0 1,G0 10]) [(0,1),(1,1),(2,1)] [G0 0,G0 0,G0 0] [.int .i64 0,.int .i64 0,.int .i64 0] Re Ym ⟨.inl O,.inl O,.inl O,G⟩ O O) O (JLh (.dptr [G0 c.Height,G0 c.Kilos20,G0 c.Kilos40,G0 c.Lash,E0 c.Plugs,G0 c.X,G0 c.Y,G0 c.Z]) (Gd Gf2 O O O) O (JLh (G0 c.Height) (Gj Gg O O O) O (JLh (.agg [G0 c.Height,G0 0,G0 40000]) (Hg (cs:=[G0 c.Height,G0 0,G0 40000]) [(0,1),(1,1),(2,1)] [G0 0,G0 0,G0 0] [.int .i64 0,.int .i64 0,.int .i64 0] Re Ym ⟨.inl O,.inl O,.inl O,G⟩ O O) O ?_)))))))))))))
  refine JLh (.dptr [G0 c.Kilos20,G0 c.Kilos40,G0 c.Lash,E0 c.Plugs,G0 c.X,G0 c.Y,G0 c.Z]) (Gd J7d O O O) O (JLh (G0 c.Kilos20) (Gj Gg O O O) O (JLh (.agg [G0 c.Kilos20,G0 0,G0 500000000]) (Hg (cs:=[G0 c.Kilos20,G0 0,G0 500000000]) [(0,1),(1,1),(2,1)] [G0 0,G0 0,G0 0] [.int .i64 0,.int .i64 0,.int .i64 0] Re Ym ⟨.inl O,.inl O,.inl O,G⟩ O O) O (JLh (.dptr [G0 c.Kilos40,G0 c.Lash,E0 c.Plugs,G0 c.X,G0 c.Y,G0 c.Z]) (Gd J7c O O O) O (JLh (G0 c.Kilos40) (Gj Gg O O O) O (JLh (.agg [G0 c.Kilos40,G0 0,G0 500000000]) (Hg (cs:=[G0 c.Kilos40,G0 0,G0 500000000]) [(0,1),(1,1),(2,1)] [G0 0,G0 0,G0 0] [.int .i64 0,.int .i64 0,.int .i64 0] Re Ym ⟨.inl O,.inl O,.inl O,G⟩ O O) O (JLh (.dptr [G0 c.Lash,E0 c.Plugs,G0 c.X,G0 c.Y,G0 c.Z]) (Gd J7b O O O) O (JLh (G0 c.Lash) (Gj Gg O O O) O (JLh (.agg [G0 c.Lash,G0 0,G0 1000000000000]) (Hg (cs:=[G0 c.Lash,G0 0,G0 1000000000000]) [(0,1),(1,1),(2,1)] [G0 0,G0 0,G0 0] [.int .i64 0,.int .i64 0,.int .i64 0] Re Ym ⟨.inl O,.inl O,.inl O,G⟩ O O) O (JLh (.dptr [G0 c.X,G0 c.Y,G0 c.Z]) (Gd H67 O O O) O (JLh (G0 c.X) (Gj Gg O O O) O (JLh (.agg [G0 c.X,G0 (-500000),G0 500000]) (Hg (cs:=[G0 c.X,G0 (-500000),G0 500000]) [(0,1),(1,1),(2,1)] [G0 0,G0 0,G0 0] [.int .i64 0,.int .i64 0,.int .i64 0] Re Ym ⟨.inl O,.inl O,.inl O,G⟩ O O) O (JLh (.dptr [G0 c.Y,G0 c.Z]) (Gd H2f O O O) O (JLh (G0 c.Y) (Gj Gg O O O) O ?_)))))))))))))
  refine JLh (.agg [G0 c.Y,G0 (-500000),G0 500000]) (Hg (cs:=[G0 c.Y,G0 (-500000),G0 500000]) [(0,1),(1,1),(2,1)] [G0 0,G0 0,G0 0] [.int .i64 0,.int .i64 0,.int .i64 0] Re Ym ⟨.inl O,.inl O,.inl O,G⟩ O O) O (JLh (.dptr [G0 c.Z]) (Gd Gc5 O O O) O (JLh (G0 c.Z) (Gj Gg O O O) O (JLh (.agg [G0 c.Z,G0 (-500000),G0 500000]) (Hg (cs:=[G0 c.Z,G0 (-500000),G0 500000]) [(0,1),(1,1),(2,1)] [G0 0,G0 0,G0 0] [.int .i64 0,.int .i64 0,.int .i64 0] Re Ym ⟨.inl O,.inl O,.inl O,G⟩ O O) O (JLh (LS 3 Hc.av [(Hc.mk c.Bay 0 39),(Hc.mk c.Row 0 30),(Hc.mk c.Tiers 1 10),(Hc.mk c.Height 0 40000),(Hc.mk c.Kilos20 0 500000000),(Hc.mk c.Kilos40 0 500000000),(Hc.mk c.Lash 0 1000000000000),(Hc.mk c.X (-500000) 500000),(Hc.mk c.Y (-500000) 500000),(Hc.mk c.Z (-500000) 500000)]) (H5 (xs:=[.agg [G0 c.Bay,G0 0,G0 39],.agg [G0 c.Row,G0 0,G0 30],.agg [G0 c.Tiers,G0 1,G0 10],.agg [G0 c.Height,G0 0,G0 40000],.agg [G0 c.Kilos20,G0 0,G0 500000000],.agg [G0 c.Kilos40,G0 0,G0 500000000],.agg [G0 c.Lash,G0 0,G0 1000000000000],.agg [G0 c.X,G0 (-500000),G0 500000],.agg [G0 c.Y,G0 (-500000),G0 500000],.agg [G0 c.Z,G0 (-500000),G0 500000]]) O ⟨O,O,O,O,O,O,O,O,O,O,O,O,O,O,O,O,O,O,O,O,G⟩ Gb1 H0b O O O O) O ?_))))
  obtain⟨r39,hr39,h⟩:=Gf h
  refine JLh (BL r39) (G10 (args:=[LS 3 Hc.av [(Hc.mk c.Bay 0 39),(Hc.mk c.Row 0 30),(Hc.mk c.Tiers 1 10),(Hc.mk c.Height 0 40000),(Hc.mk c.Kilos20 0 500000000),(Hc.mk c.Kilos40 0 500000000),(Hc.mk c.Lash 0 1000000000000),(Hc.mk c.X (-500000) 500000),(Hc.mk c.Y (-500000) 500000),(Hc.mk c.Z (-500000) 500000)]]) (caps:=[]) O O (H02 [(Hc.mk c.Bay 0 39),(Hc.mk c.Row 0 30),(Hc.mk c.Tiers 1 10),(Hc.mk c.Height 0 40000),(Hc.mk c.Kilos20 0 500000000),(Hc.mk c.Kilos40 0 500000000),(Hc.mk c.Lash 0 1000000000000),(Hc.mk c.X (-500000) 500000),(Hc.mk c.Y (-500000) 500000),(Hc.mk c.Z (-500000) 500000)] r39 hr39) J24 ⟨O,O,G⟩ O) O (Rt (BL r39) O (G7 (hK38 (Gw (fin1 BL h)))))

def G7f (s:Gr) (Rp:Bool→Prop):Option Prop:=
 bif (((decide ((s.Columns.length:Int) < 1))||(decide (200 < (s.Columns.length:Int))))||(decide (40 < (s.Covers.length:Int)))) then
 (some (Rp false))
 else
 (each (fun y68 i68 (s68:(Hd H8 Int)) nx68=>
   jp (fun kj74=>
    bif y68.Deck then
    (kj74 1)
    else
    (kj74 0)) fun(j74:Int)=>
   bnd (some (Hd.get s68 (H8.mk y68.Bay y68.Row j74) 0)) fun v77=>
   G1c (v77+1) fun v78=>
   bnd (G49 y68) fun r80=>
   bif (!r80) then
   (some (Rp false))
   else
   (nx68 (Hd.put s68 (H8.mk y68.Bay y68.Row j74) v78)))
  (fun(s68:(Hd H8 Int))=>
   each (fun y84 i84 (s84:(Hd H8 Int)) nx84=>
    bif (((decide (y84.Bay < 0))||(decide (40≤y84.Bay)))||(decide ((y84.Rows.length:Int)=0))) then
    (some (Rp false))
    else
    (each (fun y157 i157 (s157:(Hd H8 Int)) nx157=>
      bnd (bif ((!((decide (y157 < 0))||(decide (30 < y157))))&&(decide (0 < (i157:Int)))) then G1c ((i157:Int) - 1) some else some 0) fun v164=>
      bnd (bif ((!((decide (y157 < 0))||(decide (30 < y157))))&&(decide (0 < (i157:Int)))) then Y9 y84.Rows v164 some else some default) fun y165=>
      bif (((decide (y157 < 0))||(decide (30 < y157)))||((decide (0 < (i157:Int)))&&(decide (y157≤y165)))) then
      (some (Rp false))
      else
      (bnd (some (Hd.get s157 (H8.mk y84.Bay y157 2) 0)) fun v167=>
       G1c (v167+1) fun v168=>
       nx157 (Hd.put s157 (H8.mk y84.Bay y157 2) v168)))
     (fun(s157:(Hd H8 Int))=>
      nx84 s157) y84.Rows 0 s84))
   (fun(s84:(Hd H8 Int))=>
    eachM (fun(x176:H8×Int) (s176:Unit) nx176=>
     bif decide (1 < x176.2) then
     (lft (some (Rp false)))
     else
     (nx176 ()))
    (fun(s176:Unit)=>
     some (Rp true)) (Hd.l s84) ()) s.Covers 0 s68) s.Columns 0 (Hd.empty:Hd H8 Int))
def Gbb (s:Gr):Option Bool:=
 bif (((decide ((s.Columns.length:Int) < 1))||(decide (200 < (s.Columns.length:Int))))||(decide (40 < (s.Covers.length:Int)))) then
 (some (id false))
 else
 (each (fun y68 i68 (s68:(Hd H8 Int)) nx68=>
   jp (fun kj74=>
    bif y68.Deck then
    (kj74 1)
    else
    (kj74 0)) fun(j74:Int)=>
   bnd (some (Hd.get s68 (H8.mk y68.Bay y68.Row j74) 0)) fun v77=>
   G1c (v77+1) fun v78=>
   bnd (G49 y68) fun r80=>
   bif (!r80) then
   (some (id false))
   else
   (nx68 (Hd.put s68 (H8.mk y68.Bay y68.Row j74) v78)))
  (fun(s68:(Hd H8 Int))=>
   each (fun y84 i84 (s84:(Hd H8 Int)) nx84=>
    bif (((decide (y84.Bay < 0))||(decide (40≤y84.Bay)))||(decide ((y84.Rows.length:Int)=0))) then
    (some (id false))
    else
    (each (fun y157 i157 (s157:(Hd H8 Int)) nx157=>
      bnd (bif ((!((decide (y157 < 0))||(decide (30 < y157))))&&(decide (0 < (i157:Int)))) then G1c ((i157:Int) - 1) some else some 0) fun v164=>
      bnd (bif ((!((decide (y157 < 0))||(decide (30 < y157))))&&(decide (0 < (i157:Int)))) then Y9 y84.Rows v164 some else some default) fun y165=>
      bif (((decide (y157 < 0))||(decide (30 < y157)))||((decide (0 < (i157:Int)))&&(decide (y157≤y165)))) then
      (some (id false))
      else
      (bnd (some (Hd.get s157 (H8.mk y84.Bay y157 2) 0)) fun v167=>
       G1c (v167+1) fun v168=>
       nx157 (Hd.put s157 (H8.mk y84.Bay y157 2) v168)))
     (fun(s157:(Hd H8 Int))=>
      nx84 s157) y84.Rows 0 s84))
   (fun(s84:(Hd H8 Int))=>
    H9e (fun(x176:H8×Int) (s176:Unit) nx176=>
     bif decide (1 < x176.2) then
     (lft (some (id false)))
     else
     (nx176 ()))
    (fun(s176:Unit)=>
     some (id true)) (Hd.l s84) ()) s.Covers 0 s68) s.Columns 0 (Hd.empty:Hd H8 Int))
theorem J6a (s:Gr) (Rp:Bool→Prop) (p:Prop) (h:G7f s Rp=some p) (hp:p):Pure Ek 44 [.agg (Gr.cs s)] (fun av=>∃ r,Rp r∧av=BL r):=by
 unfold G7f at h
 refine H7 [.tmp 2] Tryz.func44 O O (Jr fun hK1=>(JLh (.ptr 1086 0) (Q9 (cs:=(Gr.cs s)) 1086 O O O O O) O (Rt (BL false) O (G7 (hK1 (Gt [(1,Ec s)] [] 1086 rfl rfl rfl G rfl (by exact⟨.ptr,G⟩) (Js fun hK2=>?_)))))))
 refine Jr fun hK3=>(JLh (Ec s) (Gd Ho O O O) O (JLh (E7 s.Columns) (Gj J1 O O O) O (JLl Hs O O O fun hm15=>(JLh (BL (decide ((s.Columns.length:Int) < 1))) (Q0 O O O) O (Rt (BL (decide ((s.Columns.length:Int) < 1))) O (JLo (Ec s) [] O .scf G (fun hc=>Gd Ho O O O) O (JLo (E7 s.Columns) [18] O .scf ⟨Ua,G⟩ (fun hc=>Gj J1 O O O) O (JLo (Ej s.Columns.length) [19] O .scf ⟨Ua,G⟩ (fun hc=>Z1 (f:=G3.av) (xs:=s.Columns) Hs O O) O (JLo (BL (decide (200 < (s.Columns.length:Int)))) [20] O .scf ⟨Ua,G⟩ (fun hc=>Gae O O O) O (JLh (BL ((decide ((s.Columns.length:Int) < 1))||(decide (200 < (s.Columns.length:Int))))) (G11 O O O O) O (Rt (BL ((decide ((s.Columns.length:Int) < 1))||(decide (200 < (s.Columns.length:Int))))) O (JLo (.dptr [E3 s.Covers,G0 s.Light.Kilos,G0 s.Light.X,G0 s.Light.Y,G0 s.Light.Z,E4 s.Rows,E5 s.Frames,E6 s.Tanks,G0 s.G2.Tolerance,G0 s.G2.Trim,G0 s.G2.List_,G0 s.G2.Stability]) [] O .scf G (fun hc=>Gd Hx O O O) O (JLo (E3 s.Covers) [24] O .scf ⟨Ua,G⟩ (fun hc=>Gj J9 O O O) O ?_)))))))))))))
 refine JLo (Ej s.Covers.length) [25] O .scf ⟨Ua,G⟩ (fun hc=>Z1 (f:=G9.av) (xs:=s.Covers) J7 O O) O (JLo (BL (decide (40 < (s.Covers.length:Int)))) [26] O .scf ⟨Ua,G⟩ (fun hc=>Gae O O O) O (JLh (BL (((decide ((s.Columns.length:Int) < 1))||(decide (200 < (s.Columns.length:Int))))||(decide (40 < (s.Covers.length:Int))))) (G11 O O O O) O (G7 (hK3 (JCc O h (fun h hb=>?_) (fun h hb=>?_))))))
 ·
  refine Jr fun hK4=>(Rt (BL false) O (G7 (hK4 (Gw (⟨[BL false],[],G,O,⟨⟨_,O,.conv (.same O)⟩,G⟩,O,false,Eq.mpr (Option.some.inj h) hp,O⟩)))))
 ·
  refine Gs (hK2 (Jr fun hK5=>(JLh (.mp 1089) (H8e 1089 H8.kv G0 O O) O (Rt (.mp 1089) O (G7 (hK5 (Js fun hK6=>Jr fun hK7=>(JLh (Ec s) (Gd Ho O O O) O (JLh (E7 s.Columns) (Gj J1 O O O) O (JLl Hs O O O fun hm32=>(Rt (G0 0) O (G7 (hK7 (H1 ?_))))))))))))))
  obtain⟨b68,kx68,hb68,hkx68,h⟩:=Jj h
  refine J3 (fun i68 (s68:(Hd H8 Int))=>each b68 kx68 (List.drop i68 s.Columns) i68 s68=some p) (fun i68 s68=>[(1,Ec s),(3,.mp 1089),(31,E7 s.Columns),(32,Ej s.Columns.length),(33,Ej i68)]) (fun i68 s68=>[(1089,MP 132 H8.kv G0 s68)]) (fun i68=>s.Columns.length - i68) 0 (Hd.empty:Hd H8 Int) h ⟨(by repeat' constructor),⟨⟨_,rfl,.map⟩,G⟩,rfl⟩ ?_
  clear h
  intro i68 s68 hi68 K68 e68
  refine Jr fun hK69=>(JLh (BL (decide ((i68:Int) < (s.Columns.length:Int)))) (Q0 O O O) O (G7 (hK69 (Js fun hK70=>Gn O (fun hb=>?_) (fun hb=>?_)))))
  ·
   have hk68:=Qd hb
   obtain⟨y68,nx68,hy68,hn68,h⟩:=J4 hi68 hk68
   replace h:=Zz hb68 h
   refine Gs (hK70 (Js fun hK71=>H1 (Jr fun hK72=>(JLh (Ee y68) (Ha (f:=G3.av) (xs:=s.Columns) (y:=y68) O O O Hs hy68 O) O (JLh (.agg (G3.cs y68)) (Gh Ys O O O) O (JLh (.ptr 1087 0) (Ht 1087 12 Z2 O O) O (Hu (u:=.junk) (Hj (u:=.agg (G3.cs y68)) (ds:=(G3.cs y68)) G5f O O O O O O O O) (G7 (hK72 ?_)))))))))
   refine Gt [(1,Ec s),(3,.mp 1089),(5,Ee y68),(31,E7 s.Columns),(32,Ej s.Columns.length),(33,Ej i68)] [(1089,MP 132 H8.kv G0 s68)] 1087 rfl rfl rfl ⟨⟨_,rfl,.map⟩,G⟩ rfl (by repeat' (first | exact .ptr | constructor)) (Jr fun hK73=>(Rt (G0 0) O (G7 (hK73 ?_))))
   obtain⟨kj74,hkj74,h⟩:=Yo h
   refine R9 (fun j74:Int=>kj74 j74=some p) (fun j74=>[(1,Ec s),(3,.mp 1089),(5,Ee y68),(6,G0 j74),(31,E7 s.Columns),(32,Ej s.Columns.length),(33,Ej i68)]) (fun j74=>[(1089,MP 132 H8.kv G0 s68)]) (fun Kj74 ej74=>?_) ?_
   ·
    refine Jr fun hK75=>(JLh (.dptr ((G3.cs y68).drop 2)) (Gd Rf O O O) O (JLh (BL y68.Deck) (Gj Jw O O O) O (G7 (hK75 (JCc O h (fun h hb=>?_) (fun h hb=>?_))))))
    ·
     refine G4 (Rt (G0 1) O (G7 (ej74 _ _ 1 h ⟨(by repeat' constructor),⟨⟨_,rfl,.map⟩,G⟩,rfl⟩)))
    ·
     refine Gs (ej74 _ _ 0 h ⟨(by repeat' constructor),⟨⟨_,rfl,.map⟩,G⟩,rfl⟩)
   ·intro j74 h
    replace h:=app1 hkj74 h
    refine Js fun hK76=>Rj (l':=[(1,Ec s),(3,.mp 1089),(5,Ee y68),(6,G0 j74),(31,E7 s.Columns),(32,Ej s.Columns.length),(33,Ej i68)]) (L':=[(1089,MP 132 H8.kv G0 s68)]) ⟨(by repeat' constructor),⟨⟨_,rfl,.map⟩,G⟩,rfl⟩ ?_
    obtain⟨v77,hv77,h⟩:=Gf h
    obtain⟨v78,hv78,h⟩:=Jg h
    refine Jv [9,11] [0,0,0,0,0,0,0,0,0,0,1,0] [0,0,0,0,0,0,0,1,1,0,1,0] [[(1089,MP 132 H8.kv G0 s68)],((1089,MI 132 H8.kv G0 s68 (H8.mk y68.Bay y68.Row j74) 0)::[(1089,MP 132 H8.kv G0 s68)]),((1089,MP 132 H8.kv G0 (Hd.put s68 (H8.mk y68.Bay y68.Row j74) v78))::((1089,MI 132 H8.kv G0 s68 (H8.mk y68.Bay y68.Row j74) 0)::[(1089,MP 132 H8.kv G0 s68)]))] Jx (by kernel_rfl) rfl rfl ?_
    refine Gm (u:=.mp 1089) O O ⟨Gi (G5 O O) O,G⟩ (Gm (u:=Ee y68) O O ⟨Gi (Gd Zw O O O) O,G⟩ (Gm (u:=G0 y68.Bay) O O ⟨Gi (Gj Gg O O O) O,G⟩ (Gm (u:=.dptr ((G3.cs y68).drop 1)) O O ⟨Gi (Gd Zv O O O) O,G⟩ (Gm (u:=G0 y68.Row) O O ⟨Gi (Gj Gg O O O) O,G⟩ (Gm (u:=G0 j74) O O ⟨Gi (G5 O O) O,G⟩ (Gm (u:=.agg [G0 y68.Bay,G0 y68.Row,G0 j74]) O O ⟨Gi (H8f (cs:=[G0 y68.Bay,G0 y68.Row,G0 j74]) [.int .i64 0,.int .i64 0,.int .i64 0] J3a Hdd O O) O,G⟩ (Gm (u:=G0 v77) O O ⟨Gi (((Option.some.inj hv77) ▸ H25 (av:=G0) (m:=s68) (a:=(H8.mk y68.Bay y68.Row j74)) 0 (.int .i64 0) O O O O Hbb G60 Ge0 O)) O,Gi (((Option.some.inj hv77) ▸ J74 (av:=G0) (m:=s68) (a:=(H8.mk y68.Bay y68.Row j74)) 0 (.int .i64 0) O O O O Hbb G60 Ge0 O)) O,G⟩ (Gm (u:=G0 v78) O O ⟨Gi (J0 hv78 O O O) O,Gi (J0 hv78 O O O) O,G⟩ (J70 (u:=.tup [.junk,G0 (Zn (Hd.l s68) (H8.mk y68.Bay y68.Row j74):Int)]) O O O O (Gi (Hfa (m:=s68) (a:=(H8.mk y68.Bay y68.Row j74)) 0 (.int .i64 0) O O O O Hbb G60 Ge0 O) O) (Gm (u:=G0 (Zn (Hd.l s68) (H8.mk y68.Bay y68.Row j74):Int)) O O ⟨Gi (Gv O O O) O,G⟩ (D_w0 (u:=.junk) O O O O (Gi (H72 (m:=s68) (a:=(H8.mk y68.Bay y68.Row j74)) (v:=v78) 0 O O O O O O) O) (Y5 ?_))))))))))))
    refine hK76 (Jr fun hK79=>(JLh (.agg (G3.cs y68)) (Gh Ys O O O) O ?_))
    obtain⟨r80,hr80,h⟩:=Gf h
    refine JLh (BL r80) (Gu O (J68 y68 r80 hr80) Jc1 ⟨O,O,G⟩) O (JLh (BL (!r80)) (Zs (b:=r80) O O) O (G7 (hK79 (JCc O h (fun h hb=>?_) (fun h hb=>?_)))))
    ·
     refine Jr fun hK81=>(Rt (BL false) O (G7 (hK81 (Gw (⟨[BL false],[],G,O,⟨⟨_,O,.conv (.same O)⟩,G⟩,O,false,Eq.mpr (Option.some.inj h) hp,O⟩)))))
    ·
     refine Gs (hK71 (G4 (JLh (G0 ((i68+1:Nat):Int)) (J0 (Hv hk68 hm32) O O O) O (Rt (G0 ((i68+1:Nat):Int)) O (G7 (e68 _ _ (i68+1) (Hd.put s68 (H8.mk y68.Bay y68.Row j74) v78) (app1 hn68 h) (by omega) ⟨(by repeat' constructor),⟨⟨_,rfl,.map⟩,G⟩,rfl⟩))))))
  ·
   have h:=app1 hkx68 (J5 hi68 (Hi hb))
   refine J8 (hK6 (Js fun hK82=>Jr fun hK83=>(JLh (.dptr [E3 s.Covers,G0 s.Light.Kilos,G0 s.Light.X,G0 s.Light.Y,G0 s.Light.Z,E4 s.Rows,E5 s.Frames,E6 s.Tanks,G0 s.G2.Tolerance,G0 s.G2.Trim,G0 s.G2.List_,G0 s.G2.Stability]) (Gd Hx O O O) O (JLh (E3 s.Covers) (Gj J9 O O O) O (JLl J7 O O O fun hm56=>(Rt (G0 0) O (G7 (hK83 (H1 ?_)))))))))
   obtain⟨b84,kx84,hb84,hkx84,h⟩:=Jj h
   refine J3 (fun i84 (s84:(Hd H8 Int))=>each b84 kx84 (List.drop i84 s.Covers) i84 s84=some p) (fun i84 s84=>[(3,.mp 1089),(55,E3 s.Covers),(56,Ej s.Covers.length),(57,Ej i84)]) (fun i84 s84=>[(1089,MP 132 H8.kv G0 s84)]) (fun i84=>s.Covers.length - i84) 0 s68 h ⟨(by repeat' constructor),⟨⟨_,rfl,.map⟩,G⟩,rfl⟩ ?_
   clear h
   intro i84 s84 hi84 K84 e84
   refine Jr fun hK85=>(JLh (BL (decide ((i84:Int) < (s.Covers.length:Int)))) (Q0 O O O) O (G7 (hK85 (Js fun hK86=>Gn O (fun hb=>?_) (fun hb=>?_)))))
   ·
    have hk84:=Qd hb
    obtain⟨y84,nx84,hy84,hn84,h⟩:=J4 hi84 hk84
    replace h:=Zz hb84 h
    refine Gs (hK86 (Js fun hK87=>H1 (Jr fun hK88=>(JLh (.dptr [G0 y84.Bay,E0 y84.Rows]) (Ha (f:=G9.av) (xs:=s.Covers) (y:=y84) O O O J7 hy84 O) O (JLh (.agg [G0 y84.Bay,E0 y84.Rows]) (Gh Gfa O O O) O (JLh (.ptr 1088 0) (Ht 1088 2 G9a O O) O (Hu (u:=.junk) (Hj (u:=.agg [G0 y84.Bay,E0 y84.Rows]) (ds:=[G0 y84.Bay,E0 y84.Rows]) J17 O O O O O O O O) (G7 (hK88 (Gt [(3,.mp 1089),(8,.dptr [G0 y84.Bay,E0 y84.Rows]),(55,E3 s.Covers),(56,Ej s.Covers.length),(57,Ej i84)] [(1089,MP 132 H8.kv G0 s84)] 1088 rfl rfl rfl ⟨⟨_,rfl,.map⟩,G⟩ rfl (by repeat' (first | exact .ptr | constructor)) (Js fun hK89=>?_)))))))))))
    refine Jr fun hK90=>(JLh (.dptr [G0 y84.Bay,E0 y84.Rows]) (Gd Z4 O O O) O (JLh (G0 y84.Bay) (Gj Gg O O O) O (JLh (BL (decide (y84.Bay < 0))) (Q0 O O O) O (Rt (BL (decide (y84.Bay < 0))) O (JLo (.dptr [G0 y84.Bay,E0 y84.Rows]) [] O .scf G (fun hc=>Gd Z4 O O O) O (JLo (G0 y84.Bay) [65] O .scf ⟨Ua,G⟩ (fun hc=>Gj Gg O O O) O (JLo (BL (decide (40≤y84.Bay))) [66] O .scf ⟨Ua,G⟩ (fun hc=>Gaf O O O) O (JLh (BL ((decide (y84.Bay < 0))||(decide (40≤y84.Bay)))) (G11 O O O O) O (Rt (BL ((decide (y84.Bay < 0))||(decide (40≤y84.Bay)))) O (JLo (.dptr [E0 y84.Rows]) [] O .scf G (fun hc=>Gd Yb O O O) O (JLo (E0 y84.Rows) [70] O .scf ⟨Ua,G⟩ (fun hc=>Gj R2 O O O) O (JLo (Ej y84.Rows.length) [71] O .scf ⟨Ua,G⟩ (fun hc=>Z1 (f:=G0) (xs:=y84.Rows) Gq O O) O (JLo (BL (decide ((y84.Rows.length:Int)=0))) [72] O .scf ⟨Ua,G⟩ (fun hc=>Jf O O O) O ?_)))))))))))))
    refine JLh (BL (((decide (y84.Bay < 0))||(decide (40≤y84.Bay)))||(decide ((y84.Rows.length:Int)=0)))) (G11 O O O O) O (G7 (hK90 (JCc O h (fun h hb=>?_) (fun h hb=>?_))))
    ·
     refine Jr fun hK91=>(Rt (BL false) O (G7 (hK91 (Gw (⟨[BL false],[],G,O,⟨⟨_,O,.conv (.same O)⟩,G⟩,O,false,Eq.mpr (Option.some.inj h) hp,O⟩)))))
    ·
     refine Gs (hK89 (Jr fun hK92=>(JLh (.dptr [E0 y84.Rows]) (Gd Yb O O O) O (JLh (E0 y84.Rows) (Gj R2 O O O) O (JLl Gq O O O fun hm77=>(Rt (G0 0) O (G7 (hK92 (H1 ?_)))))))))
     obtain⟨b157,kx157,hb157,hkx157,h⟩:=Jj h
     refine J3 (fun i157 (s157:(Hd H8 Int))=>each b157 kx157 (List.drop i157 y84.Rows) i157 s157=some p) (fun i157 s157=>[(3,.mp 1089),(8,.dptr [G0 y84.Bay,E0 y84.Rows]),(55,E3 s.Covers),(56,Ej s.Covers.length),(57,Ej i84),(76,E0 y84.Rows),(77,Ej y84.Rows.length),(78,Ej i157)]) (fun i157 s157=>[(1089,MP 132 H8.kv G0 s157)]) (fun i157=>y84.Rows.length - i157) 0 s84 h ⟨(by repeat' constructor),⟨⟨_,rfl,.map⟩,G⟩,rfl⟩ ?_
     clear h
     intro i157 s157 hi157 K157 e157
     refine Jr fun hK158=>(JLh (BL (decide ((i157:Int) < (y84.Rows.length:Int)))) (Q0 O O O) O (G7 (hK158 (Js fun hK159=>Gn O (fun hb=>?_) (fun hb=>?_)))))
     ·
      have hk157:=Qd hb
      obtain⟨y157,nx157,hy157,hn157,h⟩:=J4 hi157 hk157
      replace h:=Zz hb157 h
      refine Gs (hK159 (Js fun hK160=>H1 (Jr fun hK161=>(Rt (Ej i157) O (JLh (.dptr [G0 y157]) (Ha (f:=G0) (xs:=y84.Rows) (y:=y157) O O O Gq hy157 O) O (JLh (G0 y157) (Gj Gg O O O) O (Rt (Ej i157) O (Rt (G0 y157) O (G7 (hK161 (Js fun hK162=>?_)))))))))))
      refine Jr fun hK163=>(Rt (G0 y157) O (JLh (BL (decide (y157 < 0))) (Q0 O O O) O (Rt (BL (decide (y157 < 0))) O (JLo (G0 y157) [] O .scf G (fun hc=>G5 O O) O (JLo (BL (decide (30 < y157))) [86] O .scf ⟨Ua,G⟩ (fun hc=>Gae O O O) O (JLh (BL ((decide (y157 < 0))||(decide (30 < y157)))) (G11 O O O O) O (Rt (BL ((decide (y157 < 0))||(decide (30 < y157)))) O (JLo (Ej i157) [] O .scf G (fun hc=>G5 O O) O (JLo (BL (decide (0 < (i157:Int)))) [90] O .scf ⟨Ua,G⟩ (fun hc=>Gae O O O) O (JLo (BL (decide (0 < (i157:Int)))) [91] O .scf ⟨Ua,G⟩ (fun hc=>G5 O O) O (JLo (G0 y157) [] O .optt G (fun hc=>G5 O O) O (JLo (.dptr [E0 y84.Rows]) [] O .optt G (fun hc=>Gd Yb O O O) O (JLo (E0 y84.Rows) [94] O .optt ⟨Ua,G⟩ (fun hc=>Gj R2 O O O) O ?_)))))))))))))
      refine JLo (Ej i157) [] O .optt G (fun hc=>G5 O O) O ?_
      obtain⟨v164,hv164,h⟩:=Gf h
      refine JLo (G0 v164) [96] O .optt ⟨Ua,G⟩ (fun hc=>H06 (G79 (H6 hc hv164)) O O O) O ?_
      obtain⟨y165,hy165,h⟩:=Gf h
      refine JLo (.dptr [G0 y165]) [95,97] O .optt ⟨Ua,Ua,G⟩ (fun hc=>(match Za (H6 hc hy165) with | ⟨_,hm_,hy_⟩=>Ha (f:=G0) (xs:=y84.Rows) (y:=y165) O O O Gq hy_ hm_)) O (JLo (G0 y165) [98] O .optt ⟨Ua,G⟩ (fun hc=>Gj Gg O O O) O (JLo (BL (decide (y157≤y165))) [93,99] O .optt ⟨Ua,Ua,G⟩ (fun hc=>Hfb O O O) O (Gc (u:=BL ((decide (0 < (i157:Int)))&&(decide (y157≤y165)))) [(92,BL (decide (0 < (i157:Int)))),(100,_)] O O O .scf ⟨.all id,.part,G⟩ (fun hc=>Q1 O O O O) ?_)))
      refine JLh (BL (((decide (y157 < 0))||(decide (30 < y157)))||((decide (0 < (i157:Int)))&&(decide (y157≤y165))))) (G11 O O O O) O (G7 (hK163 (JCc O h (fun h hb=>?_) (fun h hb=>?_))))
      ·
       refine Jr fun hK166=>(Rt (BL false) O (G7 (hK166 (Gw (⟨[BL false],[],G,O,⟨⟨_,O,.conv (.same O)⟩,G⟩,O,false,Eq.mpr (Option.some.inj h) hp,O⟩)))))
      ·
       refine Gs (hK162 (Rj (l':=[(3,.mp 1089),(8,.dptr [G0 y84.Bay,E0 y84.Rows]),(10,G0 y157),(55,E3 s.Covers),(56,Ej s.Covers.length),(57,Ej i84),(76,E0 y84.Rows),(77,Ej y84.Rows.length),(78,Ej i157)]) (L':=[(1089,MP 132 H8.kv G0 s157)]) ⟨(by repeat' constructor),⟨⟨_,rfl,.map⟩,G⟩,rfl⟩ ?_))
       obtain⟨v167,hv167,h⟩:=Gf h
       obtain⟨v168,hv168,h⟩:=Jg h
       refine Jv [7,9] [0,0,0,0,0,0,0,0,1,0] [0,0,0,0,0,1,1,0,1,0] [[(1089,MP 132 H8.kv G0 s157)],((1089,MI 132 H8.kv G0 s157 (H8.mk y84.Bay y157 2) 0)::[(1089,MP 132 H8.kv G0 s157)]),((1089,MP 132 H8.kv G0 (Hd.put s157 (H8.mk y84.Bay y157 2) v168))::((1089,MI 132 H8.kv G0 s157 (H8.mk y84.Bay y157 2) 0)::[(1089,MP 132 H8.kv G0 s157)]))] Jx (by kernel_rfl) rfl rfl ?_
       refine Gm (u:=.mp 1089) O O ⟨Gi (G5 O O) O,G⟩ (Gm (u:=.dptr [G0 y84.Bay,E0 y84.Rows]) O O ⟨Gi (Gd Z4 O O O) O,G⟩ (Gm (u:=G0 y84.Bay) O O ⟨Gi (Gj Gg O O O) O,G⟩ (Gm (u:=G0 y157) O O ⟨Gi (G5 O O) O,G⟩ (Gm (u:=.agg [G0 y84.Bay,G0 y157,G0 2]) O O ⟨Gi (H8f (cs:=[G0 y84.Bay,G0 y157,G0 2]) [.int .i64 0,.int .i64 0,.int .i64 0] J3a Hdd O O) O,G⟩ (Gm (u:=G0 v167) O O ⟨Gi (((Option.some.inj hv167) ▸ H25 (av:=G0) (m:=s157) (a:=(H8.mk y84.Bay y157 2)) 0 (.int .i64 0) O O O O Hbb G60 Ge0 O)) O,Gi (((Option.some.inj hv167) ▸ J74 (av:=G0) (m:=s157) (a:=(H8.mk y84.Bay y157 2)) 0 (.int .i64 0) O O O O Hbb G60 Ge0 O)) O,G⟩ (Gm (u:=G0 v168) O O ⟨Gi (J0 hv168 O O O) O,Gi (J0 hv168 O O O) O,G⟩ (J70 (u:=.tup [.junk,G0 (Zn (Hd.l s157) (H8.mk y84.Bay y157 2):Int)]) O O O O (Gi (Hfa (m:=s157) (a:=(H8.mk y84.Bay y157 2)) 0 (.int .i64 0) O O O O Hbb G60 Ge0 O) O) (Gm (u:=G0 (Zn (Hd.l s157) (H8.mk y84.Bay y157 2):Int)) O O ⟨Gi (Gv O O O) O,G⟩ (D_w0 (u:=.junk) O O O O (Gi (H72 (m:=s157) (a:=(H8.mk y84.Bay y157 2)) (v:=v168) 0 O O O O O O) O) (Y5 ?_))))))))))
       refine hK160 (G4 (JLh (G0 ((i157+1:Nat):Int)) (J0 (Hv hk157 hm77) O O O) O (Rt (G0 ((i157+1:Nat):Int)) O (G7 (e157 _ _ (i157+1) (Hd.put s157 (H8.mk y84.Bay y157 2) v168) (app1 hn157 h) (by omega) ⟨(by repeat' constructor),⟨⟨_,rfl,.map⟩,G⟩,rfl⟩)))))
     ·
      have h:=app1 hkx157 (J5 hi157 (Hi hb))
      refine J8 (hK87 (G4 (JLh (G0 ((i84+1:Nat):Int)) (J0 (Hv hk84 hm56) O O O) O (Rt (G0 ((i84+1:Nat):Int)) O (G7 (e84 _ _ (i84+1) s157 (app1 hn84 h) (by omega) ⟨(by repeat' constructor),⟨⟨_,rfl,.map⟩,G⟩,rfl⟩))))))
   ·
    have h:=app1 hkx84 (J5 hi84 (Hi hb))
    refine J8 (hK82 (Js fun hK169=>Jr fun hK170=>(Rt (.mp 1089) O (JLh (.it 1090) (Ja5 1090 (m:=s84) O O O O G60) O (G7 (hK170 (H1 ?_)))))))
    obtain⟨b176,kx176,hb176,hkx176,h⟩:=eachM_in h
    refine J9f (Hd.size s84) (fun i176 (s176:Unit)=>MInv b176 kx176 (Hd.l s84) i176 s176) (fun i176 s176=>[(115,.it 1090)]) (fun i176 s176=>[(1089,MP 132 H8.kv G0 s84),(1090,.iter 1089 (Hd.size s84) i176)]) () (MInv.start h hp) ⟨⟨.same O,G⟩,⟨⟨_,O,.map⟩,⟨_,O,.iter O⟩,G⟩,O⟩ ?_
    clear h hp
    intro i176 s176 hi176 K176 e176
    refine Jr fun hK177=>Ge8 O O O (A_nextM (m:=s84) O O O O) ?_
    intro u_ L_ hn_
    rcases hn_ with ⟨q176,x176,he176,hs176,rfl,rfl⟩ | ⟨ha176,rfl,rfl⟩
    ·
     obtain⟨o176,h,ho1_176,ho2_176⟩:=hi176.step he176 hs176
     replace h:=app3 hb176 h
     refine JLh (BL true) (Gv O O O) O (G7 (hK177 (Js fun hK178=>Ja0 O (Gs (hK178 (H1 (Jr fun hK179=>(JLh (.tup [.agg (H8.cs x176.1),G0 x176.2]) (Jaa (kv:=H8.kv) (av:=G0) (m:=s84) (q:=q176) (seen:=i176) (e:=x176) O O O O he176) O (JLh (G0 x176.2) (Gv O O O) O (Rt (G0 x176.2) O (G7 (hK179 (Jr fun hK180=>(Rt (G0 x176.2) O (JLh (BL (decide (1 < x176.2))) (Gae O O O) O (G7 (hK180 (JCc O h (fun h hb=>?_) (fun h hb=>?_)))))))))))))))))))
     ·
      refine Jr fun hK181=>(Rt (BL false) O (G7 (hK181 (Gw ?_))))
      obtain⟨y_,hy_,hl_⟩:=lft_out h
      exact⟨[BL false],[],G,O,⟨⟨_,O,.conv (.same O)⟩,G⟩,O,false,Eq.mpr (Option.some.inj hl_) (ho1_176 y_ hy_),O⟩
     ·
      refine Gs (e176 _ _ (i176++[q176]) () (ho2_176 _ (Option.some.inj h).symm) (unseen_lt (List.getElem?_eq_some_iff.1 he176).1 hs176) ⟨⟨.same O,G⟩,⟨⟨_,O,.map⟩,⟨_,O,.iter O⟩,G⟩,O⟩)
    ·
     obtain⟨p_,h,hp⟩:=hi176.done ha176
     replace h:=app1 hkx176 h
     refine JLh (BL false) (Gv O O O) O (G7 (hK177 (Js fun hK182=>Ja1 O (J8 (hK169 (Jr fun hK183=>(Rt (BL true) O (G7 (hK183 (Gw (⟨[BL true],[],G,O,⟨⟨_,O,.conv (.same O)⟩,G⟩,O,true,Eq.mpr (Option.some.inj h) hp,O⟩)))))))))))
theorem J6b (S_:(Gr)→Option Bool) (hS_:∀ s r,S_ s=some r→∃ p:Prop,G7f s (fun r_=>r_=r)=some p∧p) (s:Gr) (r:Bool) (h:S_ s=some r):Pure Ek 44 [.agg (Gr.cs s)] (·=BL r):=by
 obtain⟨p,h1,h2⟩:=hS_ s r h
 exact(J6a s _ p h1 h2).monoP (fun av hh=>by obtain⟨r_,rfl,ha⟩:=hh; exact ha)

def G02 (size:Int):Option (List Int):=
 bif decide (size=40) then
 (some [0])
 else
 (bif decide (size=20) then
  (some [1,2])
  else
  (some []))
theorem H2a (size:Int) (r:(List Int)) (h:G02 size=some r):Pure Ek 68 [U8 size] (·=E9 r):=by
 unfold G02 at h
 refine H7 [.tmp 2] Tryz.func68 O O (Jr fun hK1=>(JLh (E9 ([]:List Int)) (Hk 1 O O) O (G7 (hK1 (Js fun hK2=>Jr fun hK3=>(Rt (U8 size) O (G7 (hK3 (H1 (Jr fun hK4=>(JLh (BL (decide (size=40))) (Jf O O O) O (Rt (BL (decide (size=40))) O (G7 (hK4 (JCc O h (fun h hb=>?_) (fun h hb=>?_))))))))))))))))
 ·
  refine Jr fun hK5=>(JLh (E9 [0]) (H5 (xs:=[U8 0]) O ⟨O,O,G⟩ G3e J16 O O O O) O (Rt (E9 [0]) O (G7 (hK5 (Gw (fin1 (fun r:(List Int)=>(E9 r:AV)) h))))))
 ·
  refine Jr fun hK6=>(JLh (BL (decide (size=20))) (Jf O O O) O (Rt (BL (decide (size=20))) O (G7 (hK6 (JCc O h (fun h hb=>?_) (fun h hb=>?_))))))
  ·
   refine Jr fun hK7=>(JLh (E9 [1,2]) (H5 (xs:=[U8 1,U8 2]) O ⟨O,O,O,O,G⟩ G3e J16 O O O O) O (Rt (E9 [1,2]) O (G7 (hK7 (Gw (fin1 (fun r:(List Int)=>(E9 r:AV)) h))))))
  ·
   refine Gs (hK2 (Jr fun hK8=>(JLh (E9 ([]:List Int)) (Hk 1 O O) O (G7 (hK8 (Gw (fin1 (fun r:(List Int)=>(E9 r:AV)) h)))))))

def G7d (p1:Gr) (p2:Int) (ys_:List Slot):Option Unit:=
 each (fun y2 i2 (s2:Nat) nx2=>
  need (decide ((max y2.Tiers 0)≤9223372036854775807)) <|
  upto (fun i8 (s8:Nat) nx8=>
   bnd (G02 p2) fun r14=>
   each (fun y29 i29 (s29:Nat) nx29=>
    need (decide (ys_[s29]? = some (Slot.mk (i2:Int) (i8:Int) y29))) <|
    nx29 (s29+1))
   (fun(s29:Nat)=>
    nx8 s29) r14 0 s8)
  (fun(s8:Nat)=>
   nx2 s8) (max y2.Tiers 0).toNat 0 s2)
 (fun(s2:Nat)=>
  need (decide (s2=ys_.length)) (some ())) p1.Columns 0 0
theorem Hd4 (p1:Gr) (p2:Int) (ys_:List Slot) (q_:Unit) (h:G7d p1 p2 ys_=some q_):Iter Ek 79 [.dptr (Gr.cs p1),.dptr [U8 p2]] (ys_.map (fun y:Slot=>[.agg [G0 y.G3,G0 y.Tier,U8 y.Half]])):=by
 unfold G7d at h
 refine Iter_of Tryz.func79 O O ?_
 intro E hE hys
 refine G51 (fun K1 hK1=>Zc (Qv (u:=Ec p1) hE (Gd Ho O O O) ?_ O O O O))
 refine Qv (u:=E7 p1.Columns) hE (Gj J1 O O O) ?_ O O O O
 refine J9d hE (f:=G3.av) (xs:=p1.Columns) Hs O O (fun hm11=>?_) O O O
 refine Qv (u:=G0 0) hE (G5 O O) ?_ O O O O
 refine G4a ?_
 refine hK1 _ _ _ (H04 ?_)
 obtain⟨b2,kx2,hb2,hkx2,h⟩:=Jj h
 refine J6e (fun i2 (s2:Nat)=>each b2 kx2 (List.drop i2 p1.Columns) i2 s2=some q_) (fun i2 s2=>[(0,.sc (.func (.yield E.lp) #[] #[])),(2,.dptr [U8 p2]),(10,E7 p1.Columns),(11,Ej p1.Columns.length),(12,Ej i2)]) (fun i2 s2=>[]) (fun i2 s2=>s2) (fun i2=>p1.Columns.length - i2) 0 0 h ⟨(by repeat' constructor),G,rfl⟩ rfl ?_
 clear h
 intro i2 s2 hi2 K2 e2
 refine G51 (fun K3 hK3=>Zc (Qv (u:=BL (decide ((i2:Int) < (p1.Columns.length:Int)))) hE (Q0 O O O) ?_ O O O O))
 refine G4a ?_
 refine hK3 _ _ _ (G51 (fun K4 hK4=>Hb3 O (fun hb=>?_) (fun hb=>?_)))
 ·
  have hk2:=Qd hb
  obtain⟨y2,nx2,hy2,hn2,h⟩:=J4 hi2 hk2
  replace h:=Zz hb2 h
  refine J0e (hK4 _ _ _ (G51 (fun K5 hK5=>H04 (G51 (fun K6 hK6=>Zc (Qv (u:=Ej i2) hE (G5 O O) ?_ O O O O))))))
  refine Qv (u:=Ee y2) hE (Ha (f:=G3.av) (xs:=p1.Columns) (y:=y2) O O O Hs hy2 O) ?_ O O O O
  refine Qv (u:=.agg (G3.cs y2)) hE (Gh Ys O O O) ?_ O O O O
  refine Qv (u:=.ptr 1118 0) hE (Ht 1118 12 Z2 O O) ?_ O O O O
  refine Qv (u:=Ej i2) hE (G8 O O) ?_ O O O O
  refine JIL_go0 (u:=.junk) hE (Hj (u:=.agg (G3.cs y2)) (ds:=(G3.cs y2)) G5f O O O O O O O O) ?_ O O O
  refine G4a ?_
  refine hK6 _ _ _ (G51 (fun K7 hK7=>Zc (Qv (u:=.ptr 1118 3) hE (Q8 G93 O O) ?_ O O O O)))
  refine Qv (u:=G0 y2.Tiers) hE (Yi Gg O O O O) ?_ O O O O
  refine Qv (u:=G0 (max y2.Tiers 0)) hE (Ja7 O O O) ?_ O O O O
  refine Qv (u:=G0 0) hE (G5 O O) ?_ O O O O
  refine G4a ?_
  refine hK7 _ _ _ (H04 ?_)
  obtain⟨hx8,h⟩:=Ja h
  obtain⟨b8,kx8,hb8,hkx8,h⟩:=upto_in h
  refine J6e (fun i8 (s8:Nat)=>upto b8 kx8 ((max y2.Tiers 0).toNat - i8) i8 s8=some q_) (fun i8 s8=>[(0,.sc (.func (.yield E.lp) #[] #[])),(2,.dptr [U8 p2]),(4,Ej i2),(10,E7 p1.Columns),(11,Ej p1.Columns.length),(12,Ej i2),(19,G0 (max y2.Tiers 0)),(20,Ej i8)]) (fun i8 s8=>[(1118,.box 55 (G3.cs y2))]) (fun i8 s8=>s8) (fun i8=>(max y2.Tiers 0).toNat - i8) 0 s2 h ⟨(by repeat' constructor),⟨⟨_,rfl,.boxL rfl (by repeat' constructor)⟩,G⟩,rfl⟩ rfl ?_
  clear h
  intro i8 s8 hi8 K8 e8
  refine G51 (fun K9 hK9=>Zc (Qv (u:=BL (decide ((i8:Int) < (max y2.Tiers 0)))) hE (Q0 O O O) ?_ O O O O))
  refine G4a ?_
  refine hK9 _ _ _ (G51 (fun K10 hK10=>Hb3 O (fun hb=>?_) (fun hb=>?_)))
  ·
   have hk8:=J4e hb
   obtain⟨nx8,hn8,h⟩:=J14 hi8 hk8
   replace h:=app3 hb8 h
   refine J0e (hK10 _ _ _ (G51 (fun K11 hK11=>H04 (G51 (fun K12 hK12=>Zc (Qv (u:=Ej i8) hE (G5 O O) ?_ O O O O))))))
   refine Qv (u:=Ej i8) hE (G8 O O) ?_ O O O O
   refine G4a ?_
   refine hK12 _ _ _ (G51 (fun K13 hK13=>Zc (Qv (u:=U8 p2) hE (Gj Hy O O O) ?_ O O O O)))
   obtain⟨r14,hr14,h⟩:=Gf h
   refine Qv (u:=E9 r14) hE (Gu O (H2a p2 r14 hr14) J29 ⟨O,O,G⟩) ?_ O O O O
   refine J9d hE (f:=U8) (xs:=r14) G3e O O (fun hm25=>?_) O O O
   refine Qv (u:=G0 0) hE (G5 O O) ?_ O O O O
   refine G4a ?_
   refine hK13 _ _ _ (H04 ?_)
   obtain⟨b29,kx29,hb29,hkx29,h⟩:=Jj h
   refine J6e (fun i29 (s29:Nat)=>each b29 kx29 (List.drop i29 r14) i29 s29=some q_) (fun i29 s29=>[(0,.sc (.func (.yield E.lp) #[] #[])),(2,.dptr [U8 p2]),(4,Ej i2),(6,Ej i8),(10,E7 p1.Columns),(11,Ej p1.Columns.length),(12,Ej i2),(19,G0 (max y2.Tiers 0)),(20,Ej i8),(24,E9 r14),(25,Ej r14.length),(26,Ej i29)]) (fun i29 s29=>[(1118,.box 55 (G3.cs y2))]) (fun i29 s29=>s29) (fun i29=>r14.length - i29) 0 s8 h ⟨(by repeat' constructor),⟨⟨_,rfl,.boxL rfl (by repeat' constructor)⟩,G⟩,rfl⟩ rfl ?_
   clear h
   intro i29 s29 hi29 K29 e29
   refine G51 (fun K30 hK30=>Zc (Qv (u:=BL (decide ((i29:Int) < (r14.length:Int)))) hE (Q0 O O O) ?_ O O O O))
   refine G4a ?_
   refine hK30 _ _ _ (G51 (fun K31 hK31=>Hb3 O (fun hb=>?_) (fun hb=>?_)))
   ·
    have hk29:=Qd hb
    obtain⟨y29,nx29,hy29,hn29,h⟩:=J4 hi29 hk29
    replace h:=Zz hb29 h
    refine J0e (hK31 _ _ _ (G51 (fun K32 hK32=>H04 (G51 (fun K33 hK33=>Zc (Qv (u:=.dptr [U8 y29]) hE (Ha (f:=U8) (xs:=r14) (y:=y29) O O O G3e hy29 O) ?_ O O O O))))))
    refine Qv (u:=U8 y29) hE (Gj Hy O O O) ?_ O O O O
    refine Qv (u:=U8 y29) hE (G8 O O) ?_ O O O O
    refine G4a ?_
    refine hK33 _ _ _ (G51 (fun K34 hK34=>Zc (Qv (u:=.sc (.func (.yield E.lp) #[] #[])) hE (G5 O O) ?_ O O O O)))
    refine Qv (u:=Ej i2) hE (G5 O O) ?_ O O O O
    refine Qv (u:=Ej i8) hE (G5 O O) ?_ O O O O
    refine Qv (u:=U8 y29) hE (G5 O O) ?_ O O O O
    refine Qv (u:=.agg [Ej i2,Ej i8,U8 y29]) hE (Hg (cs:=[Ej i2,Ej i8,U8 y29]) [(0,1),(1,1),(2,1)] [G0 0,G0 0,U8 0] [.int .i64 0,.int .i64 0,.int .u8 0] G15 G5e ⟨.inl O,.inl O,.inl O,G⟩ O O) ?_ O O O O
    obtain⟨ha35,h⟩:=Ja h
    refine JIL_yield (us:=[.agg [Ej i2,Ej i8,U8 y29]]) hE O O ⟨O,O,G⟩ (yld_at (f:=(fun y:Slot=>[.agg [G0 y.G3,G0 y.Tier,U8 y.Half]])) (x:=(Slot.mk (i2:Int) (i8:Int) y29)) hys ha35) ?_ O O O
    refine Qv (u:=BL false) hE (Zs (b:=true) O O) ?_ O O O O
    refine G4a ?_
    refine hK34 _ _ _ (JI_condF O (J0e (hK32 _ _ _ (Zc (Qv (u:=G0 ((i29+1:Nat):Int)) hE (J0 (Hv hk29 hm25) O O O) ?_ O O O O)))))
    refine Qv (u:=G0 ((i29+1:Nat):Int)) hE (G5 O O) ?_ O O O O
    refine G4a ?_
    exact e29 _ _ (i29+1) (s29+1) _ (app1 hn29 h) (by omega) ⟨(by repeat' constructor),⟨⟨_,rfl,.boxL rfl (by repeat' constructor)⟩,G⟩,rfl⟩ rfl
   ·
    have h:=app1 hkx29 (J5 hi29 (Hi hb))
    refine JI_exit (hK11 _ _ _ (Zc (Qv (u:=G0 ((i8+1:Nat):Int)) hE (J0 (Hv hk8 (Hba hx8)) O O O) ?_ O O O O)))
    refine Qv (u:=G0 ((i8+1:Nat):Int)) hE (G5 O O) ?_ O O O O
    refine G4a ?_
    exact e8 _ _ (i8+1) s29 _ (app1 hn8 h) (by omega) ⟨(by repeat' constructor),⟨⟨_,rfl,.boxL rfl (by repeat' constructor)⟩,G⟩,rfl⟩ rfl
  ·
   have h:=app1 hkx8 (J15 hi8 (H17 hb))
   refine JI_exit (hK5 _ _ _ (Zc (Qv (u:=G0 ((i2+1:Nat):Int)) hE (J0 (Hv hk2 hm11) O O O) ?_ O O O O)))
   refine Qv (u:=G0 ((i2+1:Nat):Int)) hE (G5 O O) ?_ O O O O
   refine G4a ?_
   exact e2 _ _ (i2+1) s8 _ (app1 hn2 h) (by omega) ⟨(by repeat' constructor),G,rfl⟩ rfl
 ·
  have h:=app1 hkx2 (J5 hi2 (Hi hb))
  refine JI_exit (yld_end (Ja h).1)
theorem Hd5 (S_:(Gr)→(Int)→Option (List Slot)) (hS_:∀ p1 p2 r,S_ p1 p2=some r→G7d p1 p2 r=some ()) (p1:Gr) (p2:Int) (r:List Slot) (h:S_ p1 p2=some r):Iter Ek 79 [.dptr (Gr.cs p1),.dptr [U8 p2]] (r.map (fun y:Slot=>[.agg [G0 y.G3,G0 y.Tier,U8 y.Half]])):=Hd4 p1 p2 r () (hS_ p1 p2 r h)
end
end Go.Proofs.YtbljcmgjmieffaaGreat
