/-
 Models of functions of the program,and that they return what the models say.
-/
import Derived.Test.YtbljcmgjmieffaaGreatSortLay
import Derived.Test.YtbljcmgjmieffaaGreatFres
set_option linter.unnecessarySimpa false
set_option maxRecDepth 100000
set_option linter.unusedVariables false
set_option linter.unusedSimpArgs false
namespace Go.Proofs.YtbljcmgjmieffaaGreat
open Go.RowKit
noncomputable section
abbrev Ek:=Tryz.prog
structure Ha where
 n:Int
 low:Int
 high:Int
 deriving DecidableEq,Inhabited
def Ha.cs (x:Ha):List AV:=[G0 x.n,G0 x.low,G0 x.high]
def Ha.av (x:Ha):AV:=.agg x.cs
structure G3 where
 Bay:Int
 Row:Int
 Deck:Bool
 Tiers:Int
 Height:Int
 Kilos20:Int
 Kilos40:Int
 Lash:Int
 Plugs:List Int
 X:Int
 Y:Int
 Z:Int
 deriving DecidableEq,Inhabited
def G3.cs (x:G3):List AV:=[G0 x.Bay,G0 x.Row,BL x.Deck,G0 x.Tiers,G0 x.Height,G0 x.Kilos20,G0 x.Kilos40,G0 x.Lash,E0 x.Plugs,G0 x.X,G0 x.Y,G0 x.Z]
def G3.av (x:G3):AV:=.agg x.cs
abbrev Ee (x:G3):AV:=.dptr (G3.cs x)
abbrev E7:=LS 12 G3.av
structure G9 where
 Bay:Int
 Rows:List Int
 deriving DecidableEq,Inhabited
def G9.cs (x:G9):List AV:=[G0 x.Bay,E0 x.Rows]
def G9.av (x:G9):AV:=.agg x.cs
abbrev E3:=LS 2 G9.av
structure Light where
 Kilos:Int
 X:Int
 Y:Int
 Z:Int
 deriving DecidableEq,Inhabited
def Light.cs (x:Light):List AV:=[G0 x.Kilos,G0 x.X,G0 x.Y,G0 x.Z]
def Light.av (x:Light):AV:=.agg x.cs
structure Row where
 Draught:Int
 Kilos:Int
 Buoy:Int
 Metacentre:Int
 Turn:Int
 deriving DecidableEq,Inhabited
def Row.cs (x:Row):List AV:=[G0 x.Draught,G0 x.Kilos,G0 x.Buoy,G0 x.Metacentre,G0 x.Turn]
def Row.av (x:Row):AV:=.agg x.cs
abbrev E4:=LS 5 Row.av
structure Frame where
 X:Int
 Light:Int
 Share:Int
 Shear:Int
 Bend:Int
 deriving DecidableEq,Inhabited
def Frame.cs (x:Frame):List AV:=[G0 x.X,G0 x.Light,G0 x.Share,G0 x.Shear,G0 x.Bend]
def Frame.av (x:Frame):AV:=.agg x.cs
abbrev E5:=LS 5 Frame.av
structure Gm where
 Kilos:Int
 X:Int
 Y:Int
 Z:Int
 Surface:Int
 Steps:List Int
 deriving DecidableEq,Inhabited
def Gm.cs (x:Gm):List AV:=[G0 x.Kilos,G0 x.X,G0 x.Y,G0 x.Z,G0 x.Surface,E0 x.Steps]
def Gm.av (x:Gm):AV:=.agg x.cs
abbrev E6:=LS 6 Gm.av
structure G2 where
 Tolerance:Int
 Trim:Int
 List_:Int
 Stability:Int
 deriving DecidableEq,Inhabited
def G2.cs (x:G2):List AV:=[G0 x.Tolerance,G0 x.Trim,G0 x.List_,G0 x.Stability]
def G2.av (x:G2):AV:=.agg x.cs
structure Gt where
 Columns:List G3
 Covers:List G9
 Light:Light
 Rows:List Row
 Frames:List Frame
 Tanks:List Gm
 G2:G2
 deriving DecidableEq,Inhabited
def Gt.cs (x:Gt):List AV:=[E7 x.Columns,E3 x.Covers,G0 x.Light.Kilos,G0 x.Light.X,G0 x.Light.Y,G0 x.Light.Z,E4 x.Rows,E5 x.Frames,E6 x.Tanks,G0 x.G2.Tolerance,G0 x.G2.Trim,G0 x.G2.List_,G0 x.G2.Stability]
def Gt.av (x:Gt):AV:=.agg x.cs
abbrev Ec (x:Gt):AV:=.dptr (Gt.cs x)
structure H8 where
 e0:Int
 e1:Int
 e2:Int
 deriving DecidableEq,Inhabited
def H8.cs (x:H8):List AV:=[G0 x.e0,G0 x.e1,G0 x.e2]
def H8.av (x:H8):AV:=.agg x.cs
def H8.ks (x:H8):List Value:=[.int .i64 x.e0,.int .i64 x.e1,.int .i64 x.e2]
def H8.kv (x:H8):Value:=.agg x.ks.toArray
structure Slot where
 G3:Int
 Tier:Int
 Half:Int
 deriving DecidableEq,Inhabited
def Slot.cs (x:Slot):List AV:=[G0 x.G3,G0 x.Tier,U8 x.Half]
def Slot.av (x:Slot):AV:=.agg x.cs
abbrev Ei (x:Slot):AV:=.dptr (Slot.cs x)
abbrev E8:=LS 3 Slot.av
namespace XAF
theorem tq_133 (a b:H8):H70 Ek 4 133 [.int .i64 a.e0,.int .i64 a.e1,.int .i64 a.e2] [.int .i64 b.e0,.int .i64 b.e1,.int .i64 b.e2]=some (decide (a=b)):=by
 refine(show _=some ((a.e0==b.e0)&&((a.e1==b.e1)&&((a.e2==b.e2)&&true))) by kernel_rfl).trans (congrArg some ?_)
 rw [Bool.eq_iff_iff]
 simp only [Bool.and_eq_true,beq_iff_eq,decide_eq_true_eq,Bool.and_true]
 constructor
 ·intro h; obtain⟨_,_,_⟩:=a; obtain⟨_,_,_⟩:=b; simp_all
 ·intro h; subst h; simp
theorem Jc2:G99 Ek 158 3=true:=by kernel_rfl
theorem Yd:G99 Ek 55 12=true:=by kernel_rfl
theorem Ge5:G99 Ek 70 2=true:=by kernel_rfl
theorem J25:arrB Ek 133 3 1=true:=by kernel_rfl
theorem J13:Hf Ek 68=true:=by kernel_rfl
theorem Ja8:Hf Ek 72=true:=by kernel_rfl
theorem J0e:Hf Ek 99=true:=by kernel_rfl
theorem H1e:Jo Ek 158 0 0=true:=by kernel_rfl
theorem J07:Jo Ek 158 1 1=true:=by kernel_rfl
theorem J06:Jo Ek 158 2 2=true:=by kernel_rfl
theorem Hm:Jo Ek 36 0 0=true:=by kernel_rfl
theorem Hu:Jo Ek 36 1 1=true:=by kernel_rfl
theorem Zh:Jo Ek 55 0 0=true:=by kernel_rfl
theorem Zg:Jo Ek 55 1 1=true:=by kernel_rfl
theorem H1d:Jo Ek 55 10 10=true:=by kernel_rfl
theorem Gb3:Jo Ek 55 11 11=true:=by kernel_rfl
theorem R2:Jo Ek 55 2 2=true:=by kernel_rfl
theorem G81:Jo Ek 55 3 3=true:=by kernel_rfl
theorem Gde:Jo Ek 55 4 4=true:=by kernel_rfl
theorem J68:Jo Ek 55 5 5=true:=by kernel_rfl
theorem J67:Jo Ek 55 6 6=true:=by kernel_rfl
theorem J66:Jo Ek 55 7 7=true:=by kernel_rfl
theorem H52:Jo Ek 55 8 8=true:=by kernel_rfl
theorem H51:Jo Ek 55 9 9=true:=by kernel_rfl
theorem Yq:Jo Ek 70 0 0=true:=by kernel_rfl
theorem Rz:Jo Ek 70 1 1=true:=by kernel_rfl
theorem G4d:G63 Ek 132 133 3=true:=by kernel_rfl
theorem Jz:Ek.follows .mixedOrders=true:=by kernel_rfl
theorem R1:placesOf Ek 158=some [(0,1),(1,1),(2,1)]:=by kernel_rfl
theorem Ga0:placesOf Ek 45=some [(0,1),(1,1),(2,1)]:=by kernel_rfl
theorem J4:Rb Ek 26=true:=by kernel_rfl
theorem Ja:Rb Ek 27=true:=by kernel_rfl
theorem Gd:Rb Ek 3=true:=by kernel_rfl
theorem Jp:Rb Ek 4=true:=by kernel_rfl
theorem Qq:Rb Ek 43=true:=by kernel_rfl
theorem Hw:Rb Ek 5=true:=by kernel_rfl
theorem J7d:R7 Ek 158 3=true:=by kernel_rfl
theorem G4c:R7 Ek 55 12=true:=by kernel_rfl
theorem J01:R7 Ek 70 2=true:=by kernel_rfl
theorem G26:sliceB Ek 128 5 1=true:=by kernel_rfl
theorem G9f:sliceB Ek 156 158 3=true:=by kernel_rfl
theorem Hq:sliceB Ek 26 55 12=true:=by kernel_rfl
theorem J8:sliceB Ek 27 70 2=true:=by kernel_rfl
theorem Gq:sliceB Ek 43 3 1=true:=by kernel_rfl
theorem Hc6:(Ek.info? 133).bind (fun i=>i.zero.map Value.cells)=some (List.toArray [.int .i64 0,.int .i64 0,.int .i64 0]):=by kernel_rfl
theorem Y7:(Ek.info? 158).bind (fun i=>i.zero.map Value.cells)=some (List.toArray [.int .i64 0,.int .i64 0,.int .i64 0]):=by kernel_rfl
theorem Gfa:(Ek.info? 45).bind (fun i=>i.zero.map Value.cells)=some (List.toArray [.int .i64 0,.int .i64 0,.int .u8 0]):=by kernel_rfl
theorem Gf9:Qv Ek 158 3=true:=by kernel_rfl
theorem J00:Qv Ek 5 1=true:=by kernel_rfl
theorem Yp:Qv Ek 55 12=true:=by kernel_rfl
theorem G88:Qv Ek 70 2=true:=by kernel_rfl
theorem Gcd:(Ek.info? 3).bind (·.zero)=some (.int .i64 0):=by kernel_rfl
theorem Ha4:Gcc Ek 133 H8.kv:=Gcc.of_eq H8.ks (by kernel_rfl) (fun a b h=>by simp only [H8.ks,List.cons.injEq,Value.int.injEq,Value.bool.injEq,Value.string.injEq,true_and,and_true] at h; obtain⟨_,_,_⟩:=a; obtain⟨_,_,_⟩:=b; simp_all) 4 (by decide) (fun a b=>tq_133 a b) (fun a=>by kernel_rfl) (fun a=>by simp [Instr.sameBits,H8.ks])
end XAF
open XAF

def Zy (l:List Ha):Option Bool:=
 each (fun y18 i18 (s18:Unit) nx18=>
  bif ((decide (y18.n < y18.low))||(decide (y18.high < y18.n))) then
  (some false)
  else
  (nx18 ()))
 (fun(s18:Unit)=>
  some true) l 0 ()
theorem Gef (l:List Ha) (r:Bool) (h:Zy l=some r):Pure Ek 99 [LS 3 Ha.av l] (·=BL r):=by
 unfold Zy at h
 refine H5 [.tmp 2] Tryz.func99 O O (Jr fun hK1=>(Rc (BL false) O (G7 (hK1 (Js fun hK2=>Jr fun hK3=>(Rc (LS 3 Ha.av l) O (JLl G9f O O O fun hm6=>(Rc (G0 0) O (G7 (hK3 (Gx ?_)))))))))))
 obtain⟨b18,kx18,hb18,hkx18,h⟩:=Jh h
 refine Hz (fun i18 (s18:Unit)=>each b18 kx18 (List.drop i18 l) i18 s18=some r) (fun i18 s18=>[(5,LS 3 Ha.av l),(6,Ej l.length),(7,Ej i18)]) (fun i18 s18=>[]) (fun i18=>l.length - i18) 0 () h ⟨⟨.same O,.same O,.same O,G⟩,G,O⟩ ?_
 clear h
 intro i18 s18 hi18 K18 e18
 refine Jr fun hK19=>(JLh (BL (decide ((i18:Int) < (l.length:Int)))) (Jt O O O) O (G7 (hK19 (Js fun hK20=>Gp O (fun hb=>?_) (fun hb=>?_)))))
 ·
  have hk18:=Q7 hb
  obtain⟨y18,nx18,hy18,hn18,h⟩:=J1 hi18 hk18
  replace h:=Zj hb18 h
  refine Gr (hK20 (Js fun hK21=>Gx (Jr fun hK22=>(JLh (.dptr [G0 y18.n,G0 y18.low,G0 y18.high]) (H9 (f:=Ha.av) (xs:=l) (y:=y18) O O O G9f hy18 O) O (JLh (.agg [G0 y18.n,G0 y18.low,G0 y18.high]) (Gh Jc2 O O O) O (JLh (.ptr 1124 0) (Hs 1124 3 Gf9 O O) O (J0 (u:=.junk) (Hh (u:=.agg [G0 y18.n,G0 y18.low,G0 y18.high]) (ds:=[G0 y18.n,G0 y18.low,G0 y18.high]) J7d O O O O O O O O) (G7 (hK22 (Gs [(4,.dptr [G0 y18.n,G0 y18.low,G0 y18.high]),(5,LS 3 Ha.av l),(6,Ej l.length),(7,Ej i18)] [] 1124 rfl rfl rfl G rfl (by repeat' (first | exact .ptr | constructor)) ?_))))))))))
  refine Jr fun hK23=>(JLh (.dptr [G0 y18.n,G0 y18.low,G0 y18.high]) (Gb H1e O O O) O (JLh (G0 y18.n) (Gi Gd O O O) O (JLh (.dptr [G0 y18.low,G0 y18.high]) (Gb J07 O O O) O (JLh (G0 y18.low) (Gi Gd O O O) O (JLh (BL (decide (y18.n < y18.low))) (Jt O O O) O (Rc (BL (decide (y18.n < y18.low))) O (JLo (.dptr [G0 y18.n,G0 y18.low,G0 y18.high]) [] O .scf G (fun hc=>Gb H1e O O O) O (JLo (G0 y18.n) [17] O .scf ⟨Ua,G⟩ (fun hc=>Gi Gd O O O) O (JLo (.dptr [G0 y18.high]) [] O .scf G (fun hc=>Gb J06 O O O) O (JLo (G0 y18.high) [19] O .scf ⟨Ua,G⟩ (fun hc=>Gi Gd O O O) O (JLo (BL (decide (y18.high < y18.n))) [18,20] O .scf ⟨Ua,Ua,G⟩ (fun hc=>G9c O O O) O (JLh (BL ((decide (y18.n < y18.low))||(decide (y18.high < y18.n)))) (G24 O O O O) O (G7 (hK23 ?_))))))))))))))
  refine JCc O h (fun h hb=>?_) (fun h hb=>?_)
  ·
   refine Jr fun hK24=>(Rc (BL false) O (G7 (hK24 (Gv (fin1 BL h)))))
  ·
   refine Gr (hK21 (G4 (JLh (G0 ((i18+1:Nat):Int)) (Hv (Hr hk18 hm6) O O O) O (Rc (G0 ((i18+1:Nat):Int)) O (G7 (e18 _ _ (i18+1) () (app1 hn18 h) (by omega) ⟨⟨.same rfl,.same rfl,.same rfl,G⟩,G,rfl⟩))))))
 ·
  have h:=app1 hkx18 (J2 hi18 (Hg hb))
  refine J6 (hK2 (Jr fun hK25=>(Rc (BL true) O (G7 (hK25 (Gv (fin1 BL h)))))))

def G31 (c:G3):Option Bool:=
 each (fun y27 i27 (s27:Unit) nx27=>
  wrp (c.Tiers - 1) fun v33=>
  bnd (Zy [(Ha.mk y27 0 v33)]) fun r34=>
  bnd (bif ((!(!r34))&&(decide (0 < (i27:Int)))) then some (IntKind.i64.wrap ((i27:Int) - 1)) else some 0) fun v35=>
  bnd (bif ((!(!r34))&&(decide (0 < (i27:Int)))) then Yn c.Plugs v35 some else some default) fun y36=>
  bif ((!r34)||((decide (0 < (i27:Int)))&&(decide (y27≤y36)))) then
  (some false)
  else
  (nx27 ()))
 (fun(s27:Unit)=>
  bnd (Zy [(Ha.mk c.Bay 0 39),(Ha.mk c.Row 0 30),(Ha.mk c.Tiers 1 10),(Ha.mk c.Height 0 40000),(Ha.mk c.Kilos20 0 500000000),(Ha.mk c.Kilos40 0 500000000),(Ha.mk c.Lash 0 1000000000000),(Ha.mk c.X (-500000) 500000),(Ha.mk c.Y (-500000) 500000),(Ha.mk c.Z (-500000) 500000)]) fun r39=>
  some r39) c.Plugs 0 ()
theorem J55 (c:G3) (r:Bool) (h:G31 c=some r):Pure Ek 72 [.agg (G3.cs c)] (·=BL r):=by
 unfold G31 at h
 refine H5 [.tmp 2] Tryz.func72 O O (Jr fun hK1=>(JLh (.ptr 1108 0) (Q1 (cs:=(G3.cs c)) 1108 O O O O O) O (Rc (BL false) O (G7 (hK1 (Gs [(1,Ee c)] [] 1108 rfl rfl rfl G rfl (by exact⟨.ptr,G⟩) (Jr fun hK2=>(Rc (.fn 99 []) O (G7 (hK2 (Js fun hK3=>Jr fun hK4=>(JLh (.dptr [E0 c.Plugs,G0 c.X,G0 c.Y,G0 c.Z]) (Gb H52 O O O) O (JLh (E0 c.Plugs) (Gi Qq O O O) O (JLl Gq O O O fun hm8=>(Rc (G0 0) O (G7 (hK4 (Gx ?_))))))))))))))))))
 obtain⟨b27,kx27,hb27,hkx27,h⟩:=Jh h
 refine Hz (fun i27 (s27:Unit)=>each b27 kx27 (List.drop i27 c.Plugs) i27 s27=some r) (fun i27 s27=>[(1,Ee c),(3,.fn 99 []),(7,E0 c.Plugs),(8,Ej c.Plugs.length),(9,Ej i27)]) (fun i27 s27=>[]) (fun i27=>c.Plugs.length - i27) 0 () h ⟨(by repeat' constructor),G,rfl⟩ ?_
 clear h
 intro i27 s27 hi27 K27 e27
 refine Jr fun hK28=>(JLh (BL (decide ((i27:Int) < (c.Plugs.length:Int)))) (Jt O O O) O (G7 (hK28 (Js fun hK29=>Gp O (fun hb=>?_) (fun hb=>?_)))))
 ·
  have hk27:=Q7 hb
  obtain⟨y27,nx27,hy27,hn27,h⟩:=J1 hi27 hk27
  replace h:=Zj hb27 h
  refine Gr (hK29 (Js fun hK30=>Gx (Jr fun hK31=>(Rc (Ej i27) O (JLh (.dptr [G0 y27]) (H9 (f:=G0) (xs:=c.Plugs) (y:=y27) O O O Gq hy27 O) O (JLh (G0 y27) (Gi Gd O O O) O (Rc (Ej i27) O (Rc (G0 y27) O (G7 (hK31 (Jr fun hK32=>(Rc (.fn 99 []) O (Rc (G0 y27) O (JLh (.dptr [G0 c.Tiers,G0 c.Height,G0 c.Kilos20,G0 c.Kilos40,G0 c.Lash,E0 c.Plugs,G0 c.X,G0 c.Y,G0 c.Z]) (Gb G81 O O O) O (JLh (G0 c.Tiers) (Gi Gd O O O) O ?_)))))))))))))))
  obtain⟨v33,hv33,h⟩:=wrp_out h
  refine JLh (G0 v33) (H3c hv33 O O O) O (JLh (.agg [G0 y27,G0 0,G0 v33]) (Hp (cs:=[G0 y27,G0 0,G0 v33]) [(0,1),(1,1),(2,1)] [G0 0,G0 0,G0 0] [.int .i64 0,.int .i64 0,.int .i64 0] R1 Y7 ⟨.inl O,.inl O,.inl O,G⟩ O O) O (JLh (LS 3 Ha.av [(Ha.mk y27 0 v33)]) (H6 (xs:=[.agg [G0 y27,G0 0,G0 v33]]) O ⟨O,O,G⟩ G9f Gf9 O O O O) O ?_))
  obtain⟨r34,hr34,h⟩:=Gf h
  refine JLh (BL r34) (Zz (args:=[LS 3 Ha.av [(Ha.mk y27 0 v33)]]) (caps:=[]) O O (Gef [(Ha.mk y27 0 v33)] r34 hr34) J0e ⟨O,O,G⟩ O) O (JLh (BL (!r34)) (Ze (b:=r34) O O) O (Rc (BL (!r34)) O (JLo (Ej i27) [] O .scf G (fun hc=>G5 O O) O (JLo (BL (decide (0 < (i27:Int)))) [24] O .scf ⟨Ua,G⟩ (fun hc=>G9c O O O) O (JLo (BL (decide (0 < (i27:Int)))) [25] O .scf ⟨Ua,G⟩ (fun hc=>G5 O O) O (JLo (G0 y27) [] O .optt G (fun hc=>G5 O O) O (JLo (.dptr [E0 c.Plugs,G0 c.X,G0 c.Y,G0 c.Z]) [] O .optt G (fun hc=>Gb H52 O O O) O (JLo (E0 c.Plugs) [28] O .optt ⟨Ua,G⟩ (fun hc=>Gi Qq O O O) O (JLo (Ej i27) [] O .optt G (fun hc=>G5 O O) O ?_)))))))))
  obtain⟨v35,hv35,h⟩:=Gf h
  refine JLo (G0 v35) [30] O .optt ⟨Ua,G⟩ (fun hc=>H3c (Option.some.inj (H4 hc hv35)) O O O) O ?_
  obtain⟨y36,hy36,h⟩:=Gf h
  refine JLo (.dptr [G0 y36]) [29,31] O .optt ⟨Ua,Ua,G⟩ (fun hc=>(match Yw (H4 hc hy36) with | ⟨_,hm_,hy_⟩=>H9 (f:=G0) (xs:=c.Plugs) (y:=y36) O O O Gq hy_ hm_)) O (JLo (G0 y36) [32] O .optt ⟨Ua,G⟩ (fun hc=>Gi Gd O O O) O (JLo (BL (decide (y27≤y36))) [27,33] O .optt ⟨Ua,Ua,G⟩ (fun hc=>He8 O O O) O (Gc (u:=BL ((decide (0 < (i27:Int)))&&(decide (y27≤y36)))) [(26,BL (decide (0 < (i27:Int)))),(34,_)] O O O .scf ⟨.all id,.part,G⟩ (fun hc=>Q6 O O O O) ?_)))
  refine JLh (BL ((!r34)||((decide (0 < (i27:Int)))&&(decide (y27≤y36))))) (G24 O O O O) O (G7 (hK32 (JCc O h (fun h hb=>?_) (fun h hb=>?_))))
  ·
   refine Jr fun hK37=>(Rc (BL false) O (G7 (hK37 (Gv (fin1 BL h)))))
  ·
   refine Gr (hK30 (G4 (JLh (G0 ((i27+1:Nat):Int)) (Hv (Hr hk27 hm8) O O O) O (Rc (G0 ((i27+1:Nat):Int)) O (G7 (e27 _ _ (i27+1) () (app1 hn27 h) (by omega) ⟨(by repeat' constructor),G,rfl⟩))))))
 ·
  have h:=app1 hkx27 (J2 hi27 (Hg hb))
  refine J6 (hK3 ?_)
  refine Jr fun hK38=>(Rc (.fn 99 []) O (JLh (Ee c) (Gb Zh O O O) O (JLh (G0 c.Bay) (Gi Gd O O O) O (JLh (.agg [G0 c.Bay,G0 0,G0 39]) (Hp (cs:=[G0 c.Bay,G0 0,G0 39]) [(0,1),(1,1),(2,1)] [G0 0,G0 0,G0 0] [.int .i64 0,.int .i64 0,.int .i64 0] R1 Y7 ⟨.inl O,.inl O,.inl O,G⟩ O O) O (JLh (.dptr [G0 c.Row,BL c.Deck,G0 c.Tiers,G0 c.Height,G0 c.Kilos20,G0 c.Kilos40,G0 c.Lash,E0 c.Plugs,G0 c.X,G0 c.Y,G0 c.Z]) (Gb Zg O O O) O (JLh (G0 c.Row) (Gi Gd O O O) O (JLh (.agg [G0 c.Row,G0 0,G0 30]) (Hp (cs:=[G0 c.Row,G0 0,G0 30]) [(0,1),(1,1),(2,1)] [G0 0,G0 0,G0 0] [.int .i64 0,.int .i64 0,.int .i64 0] R1 Y7 ⟨.inl O,.inl O,.inl O,G⟩ O O) O (JLh (.dptr [G0 c.Tiers,G0 c.Height,G0 c.Kilos20,G0 c.Kilos40,G0 c.Lash,E0 c.Plugs,G0 c.X,G0 c.Y,G0 c.Z]) (Gb G81 O O O) O (JLh (G0 c.Tiers) (Gi Gd O O O) O (JLh (.agg [G0 c.Tiers,G0 1,G0 10]) (Hp (cs:=[G0 c.Tiers,G0 1,G0 10]) [(0,1),(1,1),(2,1)] [G0 0,G0 0,G0 0] [.int .i64 0,.int .i64 0,.int .i64 0] R1 Y7 ⟨.inl O,.inl O,.inl O,G⟩ O O) O (JLh (.dptr [G0 c.Height,G0 c.Kilos20,G0 c.Kilos40,G0 c.Lash,E0 c.Plugs,G0 c.X,G0 c.Y,G0 c.Z]) (Gb Gde O O O) O (JLh (G0 c.Height) (Gi Gd O O O) O (JLh (.agg [G0 c.Height,G0 0,G0 40000]) (Hp (cs:=[G0 c.Height,G0 0,G0 40000]) [(0,1),(1,1),(2,1)] [G0 0,G0 0,G0 0] [.int .i64 0,.int .i64 0,.int .i64 0] R1 Y7 ⟨.inl O,.inl O,.inl O,G⟩ O O) O ?_)))))))))))))
  refine JLh (.dptr [G0 c.Kilos20,G0 c.Kilos40,G0 c.Lash,E0 c.Plugs,G0 c.X,G0 c.Y,G0 c.Z]) (Gb J68 O O O) O (JLh (G0 c.Kilos20) (Gi Gd O O O) O (JLh (.agg [G0 c.Kilos20,G0 0,G0 500000000]) (Hp (cs:=[G0 c.Kilos20,G0 0,G0 500000000]) [(0,1),(1,1),(2,1)] [G0 0,G0 0,G0 0] [.int .i64 0,.int .i64 0,.int .i64 0] R1 Y7 ⟨.inl O,.inl O,.inl O,G⟩ O O) O (JLh (.dptr [G0 c.Kilos40,G0 c.Lash,E0 c.Plugs,G0 c.X,G0 c.Y,G0 c.Z]) (Gb J67 O O O) O (JLh (G0 c.Kilos40) (Gi Gd O O O) O (JLh (.agg [G0 c.Kilos40,G0 0,G0 500000000]) (Hp (cs:=[G0 c.Kilos40,G0 0,G0 500000000]) [(0,1),(1,1),(2,1)] [G0 0,G0 0,G0 0] [.int .i64 0,.int .i64 0,.int .i64 0] R1 Y7 ⟨.inl O,.inl O,.inl O,G⟩ O O) O (JLh (.dptr [G0 c.Lash,E0 c.Plugs,G0 c.X,G0 c.Y,G0 c.Z]) (Gb J66 O O O) O (JLh (G0 c.Lash) (Gi Gd O O O) O (JLh (.agg [G0 c.Lash,G0 0,G0 1000000000000]) (Hp (cs:=[G0 c.Lash,G0 0,G0 1000000000000]) [(0,1),(1,1),(2,1)] [G0 0,G0 0,G0 0] [.int .i64 0,.int .i64 0,.int .i64 0] R1 Y7 ⟨.inl O,.inl O,.inl O,G⟩ O O) O (JLh (.dptr [G0 c.X,G0 c.Y,G0 c.Z]) (Gb H51 O O O) O (JLh (G0 c.X) (Gi Gd O O O) O (JLh (.agg [G0 c.X,G0 (-500000),G0 500000]) (Hp (cs:=[G0 c.X,G0 (-500000),G0 500000]) [(0,1),(1,1),(2,1)] [G0 0,G0 0,G0 0] [.int .i64 0,.int .i64 0,.int .i64 0] R1 Y7 ⟨.inl O,.inl O,.inl O,G⟩ O O) O (JLh (.dptr [G0 c.Y,G0 c.Z]) (Gb H1d O O O) O (JLh (G0 c.Y) (Gi Gd O O O) O ?_)))))))))))))
  refine JLh (.agg [G0 c.Y,G0 (-500000),G0 500000]) (Hp (cs:=[G0 c.Y,G0 (-500000),G0 500000]) [(0,1),(1,1),(2,1)] [G0 0,G0 0,G0 0] [.int .i64 0,.int .i64 0,.int .i64 0] R1 Y7 ⟨.inl O,.inl O,.inl O,G⟩ O O) O (JLh (.dptr [G0 c.Z]) (Gb Gb3 O O O) O (JLh (G0 c.Z) (Gi Gd O O O) O (JLh (.agg [G0 c.Z,G0 (-500000),G0 500000]) (Hp (cs:=[G0 c.Z,G0 (-500000),G0 500000]) [(0,1),(1,1),(2,1)] [G0 0,G0 0,G0 0] [.int .i64 0,.int .i64 0,.int .i64 0] R1 Y7 ⟨.inl O,.inl O,.inl O,G⟩ O O) O (JLh (LS 3 Ha.av [(Ha.mk c.Bay 0 39),(Ha.mk c.Row 0 30),(Ha.mk c.Tiers 1 10),(Ha.mk c.Height 0 40000),(Ha.mk c.Kilos20 0 500000000),(Ha.mk c.Kilos40 0 500000000),(Ha.mk c.Lash 0 1000000000000),(Ha.mk c.X (-500000) 500000),(Ha.mk c.Y (-500000) 500000),(Ha.mk c.Z (-500000) 500000)]) (H6 (xs:=[.agg [G0 c.Bay,G0 0,G0 39],.agg [G0 c.Row,G0 0,G0 30],.agg [G0 c.Tiers,G0 1,G0 10],.agg [G0 c.Height,G0 0,G0 40000],.agg [G0 c.Kilos20,G0 0,G0 500000000],.agg [G0 c.Kilos40,G0 0,G0 500000000],.agg [G0 c.Lash,G0 0,G0 1000000000000],.agg [G0 c.X,G0 (-500000),G0 500000],.agg [G0 c.Y,G0 (-500000),G0 500000],.agg [G0 c.Z,G0 (-500000),G0 500000]]) O ⟨O,O,O,O,O,O,O,O,O,O,O,O,O,O,O,O,O,O,O,O,G⟩ G9f Gf9 O O O O) O ?_))))
  obtain⟨r39,hr39,h⟩:=Gf h
  refine JLh (BL r39) (Zz (args:=[LS 3 Ha.av [(Ha.mk c.Bay 0 39),(Ha.mk c.Row 0 30),(Ha.mk c.Tiers 1 10),(Ha.mk c.Height 0 40000),(Ha.mk c.Kilos20 0 500000000),(Ha.mk c.Kilos40 0 500000000),(Ha.mk c.Lash 0 1000000000000),(Ha.mk c.X (-500000) 500000),(Ha.mk c.Y (-500000) 500000),(Ha.mk c.Z (-500000) 500000)]]) (caps:=[]) O O (Gef [(Ha.mk c.Bay 0 39),(Ha.mk c.Row 0 30),(Ha.mk c.Tiers 1 10),(Ha.mk c.Height 0 40000),(Ha.mk c.Kilos20 0 500000000),(Ha.mk c.Kilos40 0 500000000),(Ha.mk c.Lash 0 1000000000000),(Ha.mk c.X (-500000) 500000),(Ha.mk c.Y (-500000) 500000),(Ha.mk c.Z (-500000) 500000)] r39 hr39) J0e ⟨O,O,G⟩ O) O (Rc (BL r39) O (G7 (hK38 (Gv (fin1 BL h)))))

def G6a (s:Gt) (Rp:Bool→Prop):Option Prop:=
 bif (((decide ((s.Columns.length:Int) < 1))||(decide (200 < (s.Columns.length:Int))))||(decide (40 < (s.Covers.length:Int)))) then
 (some (Rp false))
 else
 (each (fun y68 i68 (s68:(Hc H8 Int)) nx68=>
   jp (fun kj74=>
    bif y68.Deck then
    (kj74 1)
    else
    (kj74 0)) fun(j74:Int)=>
   bnd (some (Hc.get s68 (H8.mk y68.Bay y68.Row j74) 0)) fun v77=>
   G08 (v77+1) fun v78=>
   bnd (G31 y68) fun r80=>
   bif (!r80) then
   (some (Rp false))
   else
   (nx68 (Hc.put s68 (H8.mk y68.Bay y68.Row j74) v78)))
  (fun(s68:(Hc H8 Int))=>
   each (fun y84 i84 (s84:(Hc H8 Int)) nx84=>
    bif (((decide (y84.Bay < 0))||(decide (40≤y84.Bay)))||(decide ((y84.Rows.length:Int)=0))) then
    (some (Rp false))
    else
    (each (fun y157 i157 (s157:(Hc H8 Int)) nx157=>
      bnd (bif ((!((decide (y157 < 0))||(decide (30 < y157))))&&(decide (0 < (i157:Int)))) then G08 ((i157:Int) - 1) some else some 0) fun v164=>
      bnd (bif ((!((decide (y157 < 0))||(decide (30 < y157))))&&(decide (0 < (i157:Int)))) then Yn y84.Rows v164 some else some default) fun y165=>
      bif (((decide (y157 < 0))||(decide (30 < y157)))||((decide (0 < (i157:Int)))&&(decide (y157≤y165)))) then
      (some (Rp false))
      else
      (bnd (some (Hc.get s157 (H8.mk y84.Bay y157 2) 0)) fun v167=>
       G08 (v167+1) fun v168=>
       nx157 (Hc.put s157 (H8.mk y84.Bay y157 2) v168)))
     (fun(s157:(Hc H8 Int))=>
      nx84 s157) y84.Rows 0 s84))
   (fun(s84:(Hc H8 Int))=>
    eachM (fun(x176:H8×Int) (s176:Unit) nx176=>
     bif decide (1 < x176.2) then
     (lft (some (Rp false)))
     else
     (nx176 ()))
    (fun(s176:Unit)=>
     some (Rp true)) (Hc.l s84) ()) s.Covers 0 s68) s.Columns 0 (Hc.empty:Hc H8 Int))
def Gac (s:Gt):Option Bool:=
 bif (((decide ((s.Columns.length:Int) < 1))||(decide (200 < (s.Columns.length:Int))))||(decide (40 < (s.Covers.length:Int)))) then
 (some (id false))
 else
 (each (fun y68 i68 (s68:(Hc H8 Int)) nx68=>
   jp (fun kj74=>
    bif y68.Deck then
    (kj74 1)
    else
    (kj74 0)) fun(j74:Int)=>
   bnd (some (Hc.get s68 (H8.mk y68.Bay y68.Row j74) 0)) fun v77=>
   G08 (v77+1) fun v78=>
   bnd (G31 y68) fun r80=>
   bif (!r80) then
   (some (id false))
   else
   (nx68 (Hc.put s68 (H8.mk y68.Bay y68.Row j74) v78)))
  (fun(s68:(Hc H8 Int))=>
   each (fun y84 i84 (s84:(Hc H8 Int)) nx84=>
    bif (((decide (y84.Bay < 0))||(decide (40≤y84.Bay)))||(decide ((y84.Rows.length:Int)=0))) then
    (some (id false))
    else
    (each (fun y157 i157 (s157:(Hc H8 Int)) nx157=>
      bnd (bif ((!((decide (y157 < 0))||(decide (30 < y157))))&&(decide (0 < (i157:Int)))) then G08 ((i157:Int) - 1) some else some 0) fun v164=>
      bnd (bif ((!((decide (y157 < 0))||(decide (30 < y157))))&&(decide (0 < (i157:Int)))) then Yn y84.Rows v164 some else some default) fun y165=>
      bif (((decide (y157 < 0))||(decide (30 < y157)))||((decide (0 < (i157:Int)))&&(decide (y157≤y165)))) then
      (some (id false))
      else
      (bnd (some (Hc.get s157 (H8.mk y84.Bay y157 2) 0)) fun v167=>
       G08 (v167+1) fun v168=>
       nx157 (Hc.put s157 (H8.mk y84.Bay y157 2) v168)))
     (fun(s157:(Hc H8 Int))=>
      nx84 s157) y84.Rows 0 s84))
   (fun(s84:(Hc H8 Int))=>
    H89 (fun(x176:H8×Int) (s176:Unit) nx176=>
     bif decide (1 < x176.2) then
     (lft (some (id false)))
     else
     (nx176 ()))
    (fun(s176:Unit)=>
     some (id true)) (Hc.l s84) ()) s.Covers 0 s68) s.Columns 0 (Hc.empty:Hc H8 Int))
theorem J57 (s:Gt) (Rp:Bool→Prop) (p:Prop) (h:G6a s Rp=some p) (hp:p):Pure Ek 44 [.agg (Gt.cs s)] (fun av=>∃ r,Rp r∧av=BL r):=by
 unfold G6a at h
 refine H5 [.tmp 2] Tryz.func44 O O (Jr fun hK1=>(JLh (.ptr 1083 0) (Q1 (cs:=(Gt.cs s)) 1083 O O O O O) O (Rc (BL false) O (G7 (hK1 (Gs [(1,Ec s)] [] 1083 rfl rfl rfl G rfl (by exact⟨.ptr,G⟩) (Js fun hK2=>?_)))))))
 refine Jr fun hK3=>(JLh (Ec s) (Gb Hm O O O) O (JLh (E7 s.Columns) (Gi J4 O O O) O (JLl Hq O O O fun hm15=>(JLh (BL (decide ((s.Columns.length:Int) < 1))) (Jt O O O) O (Rc (BL (decide ((s.Columns.length:Int) < 1))) O (JLo (Ec s) [] O .scf G (fun hc=>Gb Hm O O O) O (JLo (E7 s.Columns) [18] O .scf ⟨Ua,G⟩ (fun hc=>Gi J4 O O O) O (JLo (Ej s.Columns.length) [19] O .scf ⟨Ua,G⟩ (fun hc=>Yo (f:=G3.av) (xs:=s.Columns) Hq O O) O (JLo (BL (decide (200 < (s.Columns.length:Int)))) [20] O .scf ⟨Ua,G⟩ (fun hc=>G9c O O O) O (JLh (BL ((decide ((s.Columns.length:Int) < 1))||(decide (200 < (s.Columns.length:Int))))) (G24 O O O O) O (Rc (BL ((decide ((s.Columns.length:Int) < 1))||(decide (200 < (s.Columns.length:Int))))) O (JLo (.dptr [E3 s.Covers,G0 s.Light.Kilos,G0 s.Light.X,G0 s.Light.Y,G0 s.Light.Z,E4 s.Rows,E5 s.Frames,E6 s.Tanks,G0 s.G2.Tolerance,G0 s.G2.Trim,G0 s.G2.List_,G0 s.G2.Stability]) [] O .scf G (fun hc=>Gb Hu O O O) O (JLo (E3 s.Covers) [24] O .scf ⟨Ua,G⟩ (fun hc=>Gi Ja O O O) O ?_)))))))))))))
 refine JLo (Ej s.Covers.length) [25] O .scf ⟨Ua,G⟩ (fun hc=>Yo (f:=G9.av) (xs:=s.Covers) J8 O O) O (JLo (BL (decide (40 < (s.Covers.length:Int)))) [26] O .scf ⟨Ua,G⟩ (fun hc=>G9c O O O) O (JLh (BL (((decide ((s.Columns.length:Int) < 1))||(decide (200 < (s.Columns.length:Int))))||(decide (40 < (s.Covers.length:Int))))) (G24 O O O O) O (G7 (hK3 (JCc O h (fun h hb=>?_) (fun h hb=>?_))))))
 ·
  refine Jr fun hK4=>(Rc (BL false) O (G7 (hK4 (Gv (⟨[BL false],[],G,O,⟨⟨_,O,.conv (.same O)⟩,G⟩,O,false,Eq.mpr (Option.some.inj h) hp,O⟩)))))
 ·
  refine Gr (hK2 (Jr fun hK5=>(JLh (.mp 1086) (H78 1086 H8.kv G0 O O) O (Rc (.mp 1086) O (G7 (hK5 (Js fun hK6=>Jr fun hK7=>(JLh (Ec s) (Gb Hm O O O) O (JLh (E7 s.Columns) (Gi J4 O O O) O (JLl Hq O O O fun hm32=>(Rc (G0 0) O (G7 (hK7 (Gx ?_))))))))))))))
  obtain⟨b68,kx68,hb68,hkx68,h⟩:=Jh h
  refine Hz (fun i68 (s68:(Hc H8 Int))=>each b68 kx68 (List.drop i68 s.Columns) i68 s68=some p) (fun i68 s68=>[(1,Ec s),(3,.mp 1086),(31,E7 s.Columns),(32,Ej s.Columns.length),(33,Ej i68)]) (fun i68 s68=>[(1086,MP 132 H8.kv G0 s68)]) (fun i68=>s.Columns.length - i68) 0 (Hc.empty:Hc H8 Int) h ⟨(by repeat' constructor),⟨⟨_,rfl,.map⟩,G⟩,rfl⟩ ?_
  clear h
  intro i68 s68 hi68 K68 e68
  refine Jr fun hK69=>(JLh (BL (decide ((i68:Int) < (s.Columns.length:Int)))) (Jt O O O) O (G7 (hK69 (Js fun hK70=>Gp O (fun hb=>?_) (fun hb=>?_)))))
  ·
   have hk68:=Q7 hb
   obtain⟨y68,nx68,hy68,hn68,h⟩:=J1 hi68 hk68
   replace h:=Zj hb68 h
   refine Gr (hK70 (Js fun hK71=>Gx (Jr fun hK72=>(JLh (Ee y68) (H9 (f:=G3.av) (xs:=s.Columns) (y:=y68) O O O Hq hy68 O) O (JLh (.agg (G3.cs y68)) (Gh Yd O O O) O (JLh (.ptr 1084 0) (Hs 1084 12 Yp O O) O (J0 (u:=.junk) (Hh (u:=.agg (G3.cs y68)) (ds:=(G3.cs y68)) G4c O O O O O O O O) (G7 (hK72 ?_)))))))))
   refine Gs [(1,Ec s),(3,.mp 1086),(5,Ee y68),(31,E7 s.Columns),(32,Ej s.Columns.length),(33,Ej i68)] [(1086,MP 132 H8.kv G0 s68)] 1084 rfl rfl rfl ⟨⟨_,rfl,.map⟩,G⟩ rfl (by repeat' (first | exact .ptr | constructor)) (Jr fun hK73=>(Rc (G0 0) O (G7 (hK73 ?_))))
   obtain⟨kj74,hkj74,h⟩:=Yh h
   refine R5 (fun j74:Int=>kj74 j74=some p) (fun j74=>[(1,Ec s),(3,.mp 1086),(5,Ee y68),(6,G0 j74),(31,E7 s.Columns),(32,Ej s.Columns.length),(33,Ej i68)]) (fun j74=>[(1086,MP 132 H8.kv G0 s68)]) (fun Kj74 ej74=>?_) ?_
   ·
    refine Jr fun hK75=>(JLh (.dptr ((G3.cs y68).drop 2)) (Gb R2 O O O) O (JLh (BL y68.Deck) (Gi Jp O O O) O (G7 (hK75 (JCc O h (fun h hb=>?_) (fun h hb=>?_))))))
    ·
     refine G4 (Rc (G0 1) O (G7 (ej74 _ _ 1 h ⟨(by repeat' constructor),⟨⟨_,rfl,.map⟩,G⟩,rfl⟩)))
    ·
     refine Gr (ej74 _ _ 0 h ⟨(by repeat' constructor),⟨⟨_,rfl,.map⟩,G⟩,rfl⟩)
   ·intro j74 h
    replace h:=app1 hkj74 h
    refine Js fun hK76=>Rn (l':=[(1,Ec s),(3,.mp 1086),(5,Ee y68),(6,G0 j74),(31,E7 s.Columns),(32,Ej s.Columns.length),(33,Ej i68)]) (L':=[(1086,MP 132 H8.kv G0 s68)]) ⟨(by repeat' constructor),⟨⟨_,rfl,.map⟩,G⟩,rfl⟩ ?_
    obtain⟨v77,hv77,h⟩:=Gf h
    obtain⟨v78,hv78,h⟩:=Jc h
    refine Jy [9,11] [0,0,0,0,0,0,0,0,0,0,1,0] [0,0,0,0,0,0,0,1,1,0,1,0] [[(1086,MP 132 H8.kv G0 s68)],((1086,MI 132 H8.kv G0 s68 (H8.mk y68.Bay y68.Row j74) 0)::[(1086,MP 132 H8.kv G0 s68)]),((1086,MP 132 H8.kv G0 (Hc.put s68 (H8.mk y68.Bay y68.Row j74) v78))::((1086,MI 132 H8.kv G0 s68 (H8.mk y68.Bay y68.Row j74) 0)::[(1086,MP 132 H8.kv G0 s68)]))] Jz (by kernel_rfl) rfl rfl ?_
    refine Gn (u:=.mp 1086) O O ⟨Gk (G5 O O) O,G⟩ (Gn (u:=Ee y68) O O ⟨Gk (Gb Zh O O O) O,G⟩ (Gn (u:=G0 y68.Bay) O O ⟨Gk (Gi Gd O O O) O,G⟩ (Gn (u:=.dptr ((G3.cs y68).drop 1)) O O ⟨Gk (Gb Zg O O O) O,G⟩ (Gn (u:=G0 y68.Row) O O ⟨Gk (Gi Gd O O O) O,G⟩ (Gn (u:=G0 j74) O O ⟨Gk (G5 O O) O,G⟩ (Gn (u:=.agg [G0 y68.Bay,G0 y68.Row,G0 j74]) O O ⟨Gk (H79 (cs:=[G0 y68.Bay,G0 y68.Row,G0 j74]) [.int .i64 0,.int .i64 0,.int .i64 0] J25 Hc6 O O) O,G⟩ (Gn (u:=G0 v77) O O ⟨Gk (((Option.some.inj hv77) ▸ H13 (av:=G0) (m:=s68) (a:=(H8.mk y68.Bay y68.Row j74)) 0 (.int .i64 0) O O O O Ha4 G4d Gcd O)) O,Gk (((Option.some.inj hv77) ▸ J5f (av:=G0) (m:=s68) (a:=(H8.mk y68.Bay y68.Row j74)) 0 (.int .i64 0) O O O O Ha4 G4d Gcd O)) O,G⟩ (Gn (u:=G0 v78) O O ⟨Gk (Hv hv78 O O O) O,Gk (Hv hv78 O O O) O,G⟩ (J6b (u:=.tup [.junk,G0 (Z9 (Hc.l s68) (H8.mk y68.Bay y68.Row j74):Int)]) O O O O (Gk (He7 (m:=s68) (a:=(H8.mk y68.Bay y68.Row j74)) 0 (.int .i64 0) O O O O Ha4 G4d Gcd O) O) (Gn (u:=G0 (Z9 (Hc.l s68) (H8.mk y68.Bay y68.Row j74):Int)) O O ⟨Gk (H2 O O O) O,G⟩ (D_w0 (u:=.junk) O O O O (Gk (H5c (m:=s68) (a:=(H8.mk y68.Bay y68.Row j74)) (v:=v78) 0 O O O O O O) O) (Yb ?_))))))))))))
    refine hK76 (Jr fun hK79=>(JLh (.agg (G3.cs y68)) (Gh Yd O O O) O ?_))
    obtain⟨r80,hr80,h⟩:=Gf h
    refine JLh (BL r80) (Gu O (J55 y68 r80 hr80) Ja8 ⟨O,O,G⟩) O (JLh (BL (!r80)) (Ze (b:=r80) O O) O (G7 (hK79 (JCc O h (fun h hb=>?_) (fun h hb=>?_)))))
    ·
     refine Jr fun hK81=>(Rc (BL false) O (G7 (hK81 (Gv (⟨[BL false],[],G,O,⟨⟨_,O,.conv (.same O)⟩,G⟩,O,false,Eq.mpr (Option.some.inj h) hp,O⟩)))))
    ·
     refine Gr (hK71 (G4 (JLh (G0 ((i68+1:Nat):Int)) (Hv (Hr hk68 hm32) O O O) O (Rc (G0 ((i68+1:Nat):Int)) O (G7 (e68 _ _ (i68+1) (Hc.put s68 (H8.mk y68.Bay y68.Row j74) v78) (app1 hn68 h) (by omega) ⟨(by repeat' constructor),⟨⟨_,rfl,.map⟩,G⟩,rfl⟩))))))
  ·
   have h:=app1 hkx68 (J2 hi68 (Hg hb))
   refine J6 (hK6 (Js fun hK82=>Jr fun hK83=>(JLh (.dptr [E3 s.Covers,G0 s.Light.Kilos,G0 s.Light.X,G0 s.Light.Y,G0 s.Light.Z,E4 s.Rows,E5 s.Frames,E6 s.Tanks,G0 s.G2.Tolerance,G0 s.G2.Trim,G0 s.G2.List_,G0 s.G2.Stability]) (Gb Hu O O O) O (JLh (E3 s.Covers) (Gi Ja O O O) O (JLl J8 O O O fun hm56=>(Rc (G0 0) O (G7 (hK83 (Gx ?_)))))))))
   obtain⟨b84,kx84,hb84,hkx84,h⟩:=Jh h
   refine Hz (fun i84 (s84:(Hc H8 Int))=>each b84 kx84 (List.drop i84 s.Covers) i84 s84=some p) (fun i84 s84=>[(3,.mp 1086),(55,E3 s.Covers),(56,Ej s.Covers.length),(57,Ej i84)]) (fun i84 s84=>[(1086,MP 132 H8.kv G0 s84)]) (fun i84=>s.Covers.length - i84) 0 s68 h ⟨(by repeat' constructor),⟨⟨_,rfl,.map⟩,G⟩,rfl⟩ ?_
   clear h
   intro i84 s84 hi84 K84 e84
   refine Jr fun hK85=>(JLh (BL (decide ((i84:Int) < (s.Covers.length:Int)))) (Jt O O O) O (G7 (hK85 (Js fun hK86=>Gp O (fun hb=>?_) (fun hb=>?_)))))
   ·
    have hk84:=Q7 hb
    obtain⟨y84,nx84,hy84,hn84,h⟩:=J1 hi84 hk84
    replace h:=Zj hb84 h
    refine Gr (hK86 (Js fun hK87=>Gx (Jr fun hK88=>(JLh (.dptr [G0 y84.Bay,E0 y84.Rows]) (H9 (f:=G9.av) (xs:=s.Covers) (y:=y84) O O O J8 hy84 O) O (JLh (.agg [G0 y84.Bay,E0 y84.Rows]) (Gh Ge5 O O O) O (JLh (.ptr 1085 0) (Hs 1085 2 G88 O O) O (J0 (u:=.junk) (Hh (u:=.agg [G0 y84.Bay,E0 y84.Rows]) (ds:=[G0 y84.Bay,E0 y84.Rows]) J01 O O O O O O O O) (G7 (hK88 (Gs [(3,.mp 1086),(8,.dptr [G0 y84.Bay,E0 y84.Rows]),(55,E3 s.Covers),(56,Ej s.Covers.length),(57,Ej i84)] [(1086,MP 132 H8.kv G0 s84)] 1085 rfl rfl rfl ⟨⟨_,rfl,.map⟩,G⟩ rfl (by repeat' (first | exact .ptr | constructor)) (Js fun hK89=>?_)))))))))))
    refine Jr fun hK90=>(JLh (.dptr [G0 y84.Bay,E0 y84.Rows]) (Gb Yq O O O) O (JLh (G0 y84.Bay) (Gi Gd O O O) O (JLh (BL (decide (y84.Bay < 0))) (Jt O O O) O (Rc (BL (decide (y84.Bay < 0))) O (JLo (.dptr [G0 y84.Bay,E0 y84.Rows]) [] O .scf G (fun hc=>Gb Yq O O O) O (JLo (G0 y84.Bay) [65] O .scf ⟨Ua,G⟩ (fun hc=>Gi Gd O O O) O (JLo (BL (decide (40≤y84.Bay))) [66] O .scf ⟨Ua,G⟩ (fun hc=>G9d O O O) O (JLh (BL ((decide (y84.Bay < 0))||(decide (40≤y84.Bay)))) (G24 O O O O) O (Rc (BL ((decide (y84.Bay < 0))||(decide (40≤y84.Bay)))) O (JLo (.dptr [E0 y84.Rows]) [] O .scf G (fun hc=>Gb Rz O O O) O (JLo (E0 y84.Rows) [70] O .scf ⟨Ua,G⟩ (fun hc=>Gi Qq O O O) O (JLo (Ej y84.Rows.length) [71] O .scf ⟨Ua,G⟩ (fun hc=>Yo (f:=G0) (xs:=y84.Rows) Gq O O) O (JLo (BL (decide ((y84.Rows.length:Int)=0))) [72] O .scf ⟨Ua,G⟩ (fun hc=>Jx O O O) O ?_)))))))))))))
    refine JLh (BL (((decide (y84.Bay < 0))||(decide (40≤y84.Bay)))||(decide ((y84.Rows.length:Int)=0)))) (G24 O O O O) O (G7 (hK90 (JCc O h (fun h hb=>?_) (fun h hb=>?_))))
    ·
     refine Jr fun hK91=>(Rc (BL false) O (G7 (hK91 (Gv (⟨[BL false],[],G,O,⟨⟨_,O,.conv (.same O)⟩,G⟩,O,false,Eq.mpr (Option.some.inj h) hp,O⟩)))))
    ·
     refine Gr (hK89 (Jr fun hK92=>(JLh (.dptr [E0 y84.Rows]) (Gb Rz O O O) O (JLh (E0 y84.Rows) (Gi Qq O O O) O (JLl Gq O O O fun hm77=>(Rc (G0 0) O (G7 (hK92 (Gx ?_)))))))))
     obtain⟨b157,kx157,hb157,hkx157,h⟩:=Jh h
     refine Hz (fun i157 (s157:(Hc H8 Int))=>each b157 kx157 (List.drop i157 y84.Rows) i157 s157=some p) (fun i157 s157=>[(3,.mp 1086),(8,.dptr [G0 y84.Bay,E0 y84.Rows]),(55,E3 s.Covers),(56,Ej s.Covers.length),(57,Ej i84),(76,E0 y84.Rows),(77,Ej y84.Rows.length),(78,Ej i157)]) (fun i157 s157=>[(1086,MP 132 H8.kv G0 s157)]) (fun i157=>y84.Rows.length - i157) 0 s84 h ⟨(by repeat' constructor),⟨⟨_,rfl,.map⟩,G⟩,rfl⟩ ?_
     clear h
     intro i157 s157 hi157 K157 e157
     refine Jr fun hK158=>(JLh (BL (decide ((i157:Int) < (y84.Rows.length:Int)))) (Jt O O O) O (G7 (hK158 (Js fun hK159=>Gp O (fun hb=>?_) (fun hb=>?_)))))
     ·
      have hk157:=Q7 hb
      obtain⟨y157,nx157,hy157,hn157,h⟩:=J1 hi157 hk157
      replace h:=Zj hb157 h
      refine Gr (hK159 (Js fun hK160=>Gx (Jr fun hK161=>(Rc (Ej i157) O (JLh (.dptr [G0 y157]) (H9 (f:=G0) (xs:=y84.Rows) (y:=y157) O O O Gq hy157 O) O (JLh (G0 y157) (Gi Gd O O O) O (Rc (Ej i157) O (Rc (G0 y157) O (G7 (hK161 (Js fun hK162=>?_)))))))))))
      refine Jr fun hK163=>(Rc (G0 y157) O (JLh (BL (decide (y157 < 0))) (Jt O O O) O (Rc (BL (decide (y157 < 0))) O (JLo (G0 y157) [] O .scf G (fun hc=>G5 O O) O (JLo (BL (decide (30 < y157))) [86] O .scf ⟨Ua,G⟩ (fun hc=>G9c O O O) O (JLh (BL ((decide (y157 < 0))||(decide (30 < y157)))) (G24 O O O O) O (Rc (BL ((decide (y157 < 0))||(decide (30 < y157)))) O (JLo (Ej i157) [] O .scf G (fun hc=>G5 O O) O (JLo (BL (decide (0 < (i157:Int)))) [90] O .scf ⟨Ua,G⟩ (fun hc=>G9c O O O) O (JLo (BL (decide (0 < (i157:Int)))) [91] O .scf ⟨Ua,G⟩ (fun hc=>G5 O O) O (JLo (G0 y157) [] O .optt G (fun hc=>G5 O O) O (JLo (.dptr [E0 y84.Rows]) [] O .optt G (fun hc=>Gb Rz O O O) O (JLo (E0 y84.Rows) [94] O .optt ⟨Ua,G⟩ (fun hc=>Gi Qq O O O) O ?_)))))))))))))
      refine JLo (Ej i157) [] O .optt G (fun hc=>G5 O O) O ?_
      obtain⟨v164,hv164,h⟩:=Gf h
      refine JLo (G0 v164) [96] O .optt ⟨Ua,G⟩ (fun hc=>H3c (G64 (H4 hc hv164)) O O O) O ?_
      obtain⟨y165,hy165,h⟩:=Gf h
      refine JLo (.dptr [G0 y165]) [95,97] O .optt ⟨Ua,Ua,G⟩ (fun hc=>(match Yw (H4 hc hy165) with | ⟨_,hm_,hy_⟩=>H9 (f:=G0) (xs:=y84.Rows) (y:=y165) O O O Gq hy_ hm_)) O (JLo (G0 y165) [98] O .optt ⟨Ua,G⟩ (fun hc=>Gi Gd O O O) O (JLo (BL (decide (y157≤y165))) [93,99] O .optt ⟨Ua,Ua,G⟩ (fun hc=>He8 O O O) O (Gc (u:=BL ((decide (0 < (i157:Int)))&&(decide (y157≤y165)))) [(92,BL (decide (0 < (i157:Int)))),(100,_)] O O O .scf ⟨.all id,.part,G⟩ (fun hc=>Q6 O O O O) ?_)))
      refine JLh (BL (((decide (y157 < 0))||(decide (30 < y157)))||((decide (0 < (i157:Int)))&&(decide (y157≤y165))))) (G24 O O O O) O (G7 (hK163 (JCc O h (fun h hb=>?_) (fun h hb=>?_))))
      ·
       refine Jr fun hK166=>(Rc (BL false) O (G7 (hK166 (Gv (⟨[BL false],[],G,O,⟨⟨_,O,.conv (.same O)⟩,G⟩,O,false,Eq.mpr (Option.some.inj h) hp,O⟩)))))
      ·
       refine Gr (hK162 (Rn (l':=[(3,.mp 1086),(8,.dptr [G0 y84.Bay,E0 y84.Rows]),(10,G0 y157),(55,E3 s.Covers),(56,Ej s.Covers.length),(57,Ej i84),(76,E0 y84.Rows),(77,Ej y84.Rows.length),(78,Ej i157)]) (L':=[(1086,MP 132 H8.kv G0 s157)]) ⟨(by repeat' constructor),⟨⟨_,rfl,.map⟩,G⟩,rfl⟩ ?_))
       obtain⟨v167,hv167,h⟩:=Gf h
       obtain⟨v168,hv168,h⟩:=Jc h
       refine Jy [7,9] [0,0,0,0,0,0,0,0,1,0] [0,0,0,0,0,1,1,0,1,0] [[(1086,MP 132 H8.kv G0 s157)],((1086,MI 132 H8.kv G0 s157 (H8.mk y84.Bay y157 2) 0)::[(1086,MP 132 H8.kv G0 s157)]),((1086,MP 132 H8.kv G0 (Hc.put s157 (H8.mk y84.Bay y157 2) v168))::((1086,MI 132 H8.kv G0 s157 (H8.mk y84.Bay y157 2) 0)::[(1086,MP 132 H8.kv G0 s157)]))] Jz (by kernel_rfl) rfl rfl ?_
       refine Gn (u:=.mp 1086) O O ⟨Gk (G5 O O) O,G⟩ (Gn (u:=.dptr [G0 y84.Bay,E0 y84.Rows]) O O ⟨Gk (Gb Yq O O O) O,G⟩ (Gn (u:=G0 y84.Bay) O O ⟨Gk (Gi Gd O O O) O,G⟩ (Gn (u:=G0 y157) O O ⟨Gk (G5 O O) O,G⟩ (Gn (u:=.agg [G0 y84.Bay,G0 y157,G0 2]) O O ⟨Gk (H79 (cs:=[G0 y84.Bay,G0 y157,G0 2]) [.int .i64 0,.int .i64 0,.int .i64 0] J25 Hc6 O O) O,G⟩ (Gn (u:=G0 v167) O O ⟨Gk (((Option.some.inj hv167) ▸ H13 (av:=G0) (m:=s157) (a:=(H8.mk y84.Bay y157 2)) 0 (.int .i64 0) O O O O Ha4 G4d Gcd O)) O,Gk (((Option.some.inj hv167) ▸ J5f (av:=G0) (m:=s157) (a:=(H8.mk y84.Bay y157 2)) 0 (.int .i64 0) O O O O Ha4 G4d Gcd O)) O,G⟩ (Gn (u:=G0 v168) O O ⟨Gk (Hv hv168 O O O) O,Gk (Hv hv168 O O O) O,G⟩ (J6b (u:=.tup [.junk,G0 (Z9 (Hc.l s157) (H8.mk y84.Bay y157 2):Int)]) O O O O (Gk (He7 (m:=s157) (a:=(H8.mk y84.Bay y157 2)) 0 (.int .i64 0) O O O O Ha4 G4d Gcd O) O) (Gn (u:=G0 (Z9 (Hc.l s157) (H8.mk y84.Bay y157 2):Int)) O O ⟨Gk (H2 O O O) O,G⟩ (D_w0 (u:=.junk) O O O O (Gk (H5c (m:=s157) (a:=(H8.mk y84.Bay y157 2)) (v:=v168) 0 O O O O O O) O) (Yb ?_))))))))))
       refine hK160 (G4 (JLh (G0 ((i157+1:Nat):Int)) (Hv (Hr hk157 hm77) O O O) O (Rc (G0 ((i157+1:Nat):Int)) O (G7 (e157 _ _ (i157+1) (Hc.put s157 (H8.mk y84.Bay y157 2) v168) (app1 hn157 h) (by omega) ⟨(by repeat' constructor),⟨⟨_,rfl,.map⟩,G⟩,rfl⟩)))))
     ·
      have h:=app1 hkx157 (J2 hi157 (Hg hb))
      refine J6 (hK87 (G4 (JLh (G0 ((i84+1:Nat):Int)) (Hv (Hr hk84 hm56) O O O) O (Rc (G0 ((i84+1:Nat):Int)) O (G7 (e84 _ _ (i84+1) s157 (app1 hn84 h) (by omega) ⟨(by repeat' constructor),⟨⟨_,rfl,.map⟩,G⟩,rfl⟩))))))
   ·
    have h:=app1 hkx84 (J2 hi84 (Hg hb))
    refine J6 (hK82 (Js fun hK169=>Jr fun hK170=>(Rc (.mp 1086) O (JLh (.it 1087) (J8f 1087 (m:=s84) O O O O G4d) O (G7 (hK170 (Gx ?_)))))))
    obtain⟨b176,kx176,hb176,hkx176,h⟩:=eachM_in h
    refine J89 (Hc.size s84) (fun i176 (s176:Unit)=>MInv b176 kx176 (Hc.l s84) i176 s176) (fun i176 s176=>[(115,.it 1087)]) (fun i176 s176=>[(1086,MP 132 H8.kv G0 s84),(1087,.iter 1086 (Hc.size s84) i176)]) () (MInv.start h hp) ⟨⟨.same O,G⟩,⟨⟨_,O,.map⟩,⟨_,O,.iter O⟩,G⟩,O⟩ ?_
    clear h hp
    intro i176 s176 hi176 K176 e176
    refine Jr fun hK177=>Gd6 O O O (A_nextM (m:=s84) O O O O) ?_
    intro u_ L_ hn_
    rcases hn_ with ⟨q176,x176,he176,hs176,rfl,rfl⟩ | ⟨ha176,rfl,rfl⟩
    ·
     obtain⟨o176,h,ho1_176,ho2_176⟩:=hi176.step he176 hs176
     replace h:=app3 hb176 h
     refine JLh (BL true) (H2 O O O) O (G7 (hK177 (Js fun hK178=>J8a O (Gr (hK178 (Gx (Jr fun hK179=>(JLh (.tup [.agg (H8.cs x176.1),G0 x176.2]) (J93 (kv:=H8.kv) (av:=G0) (m:=s84) (q:=q176) (seen:=i176) (e:=x176) O O O O he176) O (JLh (G0 x176.2) (H2 O O O) O (Rc (G0 x176.2) O (G7 (hK179 (Jr fun hK180=>(Rc (G0 x176.2) O (JLh (BL (decide (1 < x176.2))) (G9c O O O) O (G7 (hK180 (JCc O h (fun h hb=>?_) (fun h hb=>?_)))))))))))))))))))
     ·
      refine Jr fun hK181=>(Rc (BL false) O (G7 (hK181 (Gv ?_))))
      obtain⟨y_,hy_,hl_⟩:=lft_out h
      exact⟨[BL false],[],G,O,⟨⟨_,O,.conv (.same O)⟩,G⟩,O,false,Eq.mpr (Option.some.inj hl_) (ho1_176 y_ hy_),O⟩
     ·
      refine Gr (e176 _ _ (i176++[q176]) () (ho2_176 _ (Option.some.inj h).symm) (unseen_lt (List.getElem?_eq_some_iff.1 he176).1 hs176) ⟨⟨.same O,G⟩,⟨⟨_,O,.map⟩,⟨_,O,.iter O⟩,G⟩,O⟩)
    ·
     obtain⟨p_,h,hp⟩:=hi176.done ha176
     replace h:=app1 hkx176 h
     refine JLh (BL false) (H2 O O O) O (G7 (hK177 (Js fun hK182=>J8b O (J6 (hK169 (Jr fun hK183=>(Rc (BL true) O (G7 (hK183 (Gv (⟨[BL true],[],G,O,⟨⟨_,O,.conv (.same O)⟩,G⟩,O,true,Eq.mpr (Option.some.inj h) hp,O⟩)))))))))))
theorem J58 (S_:(Gt)→Option Bool) (hS_:∀ s r,S_ s=some r→∃ p:Prop,G6a s (fun r_=>r_=r)=some p∧p) (s:Gt) (r:Bool) (h:S_ s=some r):Pure Ek 44 [.agg (Gt.cs s)] (·=BL r):=by
 obtain⟨p,h1,h2⟩:=hS_ s r h
 exact(J57 s _ p h1 h2).monoP (fun av hh=>by obtain⟨r_,rfl,ha⟩:=hh; exact ha)

def Zn (size:Int):Option (List Int):=
 bif decide (size=40) then
 (some [0])
 else
 (bif decide (size=20) then
  (some [1,2])
  else
  (some []))
theorem H19 (size:Int) (r:(List Int)) (h:Zn size=some r):Pure Ek 68 [U8 size] (·=E9 r):=by
 unfold Zn at h
 refine H5 [.tmp 2] Tryz.func68 O O (Jr fun hK1=>(JLh (E9 ([]:List Int)) (Hi 1 O O) O (G7 (hK1 (Js fun hK2=>Jr fun hK3=>(Rc (U8 size) O (G7 (hK3 (Gx (Jr fun hK4=>(JLh (BL (decide (size=40))) (Jx O O O) O (Rc (BL (decide (size=40))) O (G7 (hK4 (JCc O h (fun h hb=>?_) (fun h hb=>?_))))))))))))))))
 ·
  refine Jr fun hK5=>(JLh (E9 [0]) (H6 (xs:=[U8 0]) O ⟨O,O,G⟩ G26 J00 O O O O) O (Rc (E9 [0]) O (G7 (hK5 (Gv (fin1 (fun r:(List Int)=>(E9 r:AV)) h))))))
 ·
  refine Jr fun hK6=>(JLh (BL (decide (size=20))) (Jx O O O) O (Rc (BL (decide (size=20))) O (G7 (hK6 (JCc O h (fun h hb=>?_) (fun h hb=>?_))))))
  ·
   refine Jr fun hK7=>(JLh (E9 [1,2]) (H6 (xs:=[U8 1,U8 2]) O ⟨O,O,O,O,G⟩ G26 J00 O O O O) O (Rc (E9 [1,2]) O (G7 (hK7 (Gv (fin1 (fun r:(List Int)=>(E9 r:AV)) h))))))
  ·
   refine Gr (hK2 (Jr fun hK8=>(JLh (E9 ([]:List Int)) (Hi 1 O O) O (G7 (hK8 (Gv (fin1 (fun r:(List Int)=>(E9 r:AV)) h)))))))

def G69 (p1:Gt) (p2:Int) (ys_:List Slot):Option Unit:=
 each (fun y2 i2 (s2:Nat) nx2=>
  need (decide ((max y2.Tiers 0)≤9223372036854775807)) <|
  upto (fun i8 (s8:Nat) nx8=>
   bnd (Zn p2) fun r14=>
   each (fun y29 i29 (s29:Nat) nx29=>
    need (decide (ys_[s29]? = some (Slot.mk (i2:Int) (i8:Int) y29))) <|
    nx29 (s29+1))
   (fun(s29:Nat)=>
    nx8 s29) r14 0 s8)
  (fun(s8:Nat)=>
   nx2 s8) (max y2.Tiers 0).toNat 0 s2)
 (fun(s2:Nat)=>
  need (decide (s2=ys_.length)) (some ())) p1.Columns 0 0
theorem Hbb (p1:Gt) (p2:Int) (ys_:List Slot) (q_:Unit) (h:G69 p1 p2 ys_=some q_):Iter Ek 79 [.dptr (Gt.cs p1),.dptr [U8 p2]] (ys_.map (fun y:Slot=>[.agg [G0 y.G3,G0 y.Tier,U8 y.Half]])):=by
 unfold G69 at h
 refine Iter_of Tryz.func79 O O ?_
 intro E hE hys
 refine G3b (fun K1 hK1=>Yy (Qm (u:=Ec p1) hE (Gb Hm O O O) ?_ O O O O))
 refine Qm (u:=E7 p1.Columns) hE (Gi J4 O O O) ?_ O O O O
 refine J87 hE (f:=G3.av) (xs:=p1.Columns) Hq O O (fun hm11=>?_) O O O
 refine Qm (u:=G0 0) hE (G5 O O) ?_ O O O O
 refine G32 ?_
 refine hK1 _ _ _ (Gf1 ?_)
 obtain⟨b2,kx2,hb2,hkx2,h⟩:=Jh h
 refine J5a (fun i2 (s2:Nat)=>each b2 kx2 (List.drop i2 p1.Columns) i2 s2=some q_) (fun i2 s2=>[(0,.sc (.func (.yield E.lp) #[] #[])),(2,.dptr [U8 p2]),(10,E7 p1.Columns),(11,Ej p1.Columns.length),(12,Ej i2)]) (fun i2 s2=>[]) (fun i2 s2=>s2) (fun i2=>p1.Columns.length - i2) 0 0 h ⟨(by repeat' constructor),G,rfl⟩ rfl ?_
 clear h
 intro i2 s2 hi2 K2 e2
 refine G3b (fun K3 hK3=>Yy (Qm (u:=BL (decide ((i2:Int) < (p1.Columns.length:Int)))) hE (Jt O O O) ?_ O O O O))
 refine G32 ?_
 refine hK3 _ _ _ (G3b (fun K4 hK4=>H9d O (fun hb=>?_) (fun hb=>?_)))
 ·
  have hk2:=Q7 hb
  obtain⟨y2,nx2,hy2,hn2,h⟩:=J1 hi2 hk2
  replace h:=Zj hb2 h
  refine Hf9 (hK4 _ _ _ (G3b (fun K5 hK5=>Gf1 (G3b (fun K6 hK6=>Yy (Qm (u:=Ej i2) hE (G5 O O) ?_ O O O O))))))
  refine Qm (u:=Ee y2) hE (H9 (f:=G3.av) (xs:=p1.Columns) (y:=y2) O O O Hq hy2 O) ?_ O O O O
  refine Qm (u:=.agg (G3.cs y2)) hE (Gh Yd O O O) ?_ O O O O
  refine Qm (u:=.ptr 1115 0) hE (Hs 1115 12 Yp O O) ?_ O O O O
  refine Qm (u:=Ej i2) hE (G8 O O) ?_ O O O O
  refine JIL_go0 (u:=.junk) hE (Hh (u:=.agg (G3.cs y2)) (ds:=(G3.cs y2)) G4c O O O O O O O O) ?_ O O O
  refine G32 ?_
  refine hK6 _ _ _ (G3b (fun K7 hK7=>Yy (Qm (u:=.ptr 1115 3) hE (Q0 G81 O O) ?_ O O O O)))
  refine Qm (u:=G0 y2.Tiers) hE (Y3 Gd O O O O) ?_ O O O O
  refine Qm (u:=G0 (max y2.Tiers 0)) hE (A_max O O O) ?_ O O O O
  refine Qm (u:=G0 0) hE (G5 O O) ?_ O O O O
  refine G32 ?_
  refine hK7 _ _ _ (Gf1 ?_)
  obtain⟨hx8,h⟩:=Jk h
  obtain⟨b8,kx8,hb8,hkx8,h⟩:=upto_in h
  refine J5a (fun i8 (s8:Nat)=>upto b8 kx8 ((max y2.Tiers 0).toNat - i8) i8 s8=some q_) (fun i8 s8=>[(0,.sc (.func (.yield E.lp) #[] #[])),(2,.dptr [U8 p2]),(4,Ej i2),(10,E7 p1.Columns),(11,Ej p1.Columns.length),(12,Ej i2),(19,G0 (max y2.Tiers 0)),(20,Ej i8)]) (fun i8 s8=>[(1115,.box 55 (G3.cs y2))]) (fun i8 s8=>s8) (fun i8=>(max y2.Tiers 0).toNat - i8) 0 s2 h ⟨(by repeat' constructor),⟨⟨_,rfl,.boxL rfl (by repeat' constructor)⟩,G⟩,rfl⟩ rfl ?_
  clear h
  intro i8 s8 hi8 K8 e8
  refine G3b (fun K9 hK9=>Yy (Qm (u:=BL (decide ((i8:Int) < (max y2.Tiers 0)))) hE (Jt O O O) ?_ O O O O))
  refine G32 ?_
  refine hK9 _ _ _ (G3b (fun K10 hK10=>H9d O (fun hb=>?_) (fun hb=>?_)))
  ·
   have hk8:=J39 hb
   obtain⟨nx8,hn8,h⟩:=Hfe hi8 hk8
   replace h:=app3 hb8 h
   refine Hf9 (hK10 _ _ _ (G3b (fun K11 hK11=>Gf1 (G3b (fun K12 hK12=>Yy (Qm (u:=Ej i8) hE (G5 O O) ?_ O O O O))))))
   refine Qm (u:=Ej i8) hE (G8 O O) ?_ O O O O
   refine G32 ?_
   refine hK12 _ _ _ (G3b (fun K13 hK13=>Yy (Qm (u:=U8 p2) hE (Gi Hw O O O) ?_ O O O O)))
   obtain⟨r14,hr14,h⟩:=Gf h
   refine Qm (u:=E9 r14) hE (Gu O (H19 p2 r14 hr14) J13 ⟨O,O,G⟩) ?_ O O O O
   refine J87 hE (f:=U8) (xs:=r14) G26 O O (fun hm25=>?_) O O O
   refine Qm (u:=G0 0) hE (G5 O O) ?_ O O O O
   refine G32 ?_
   refine hK13 _ _ _ (Gf1 ?_)
   obtain⟨b29,kx29,hb29,hkx29,h⟩:=Jh h
   refine J5a (fun i29 (s29:Nat)=>each b29 kx29 (List.drop i29 r14) i29 s29=some q_) (fun i29 s29=>[(0,.sc (.func (.yield E.lp) #[] #[])),(2,.dptr [U8 p2]),(4,Ej i2),(6,Ej i8),(10,E7 p1.Columns),(11,Ej p1.Columns.length),(12,Ej i2),(19,G0 (max y2.Tiers 0)),(20,Ej i8),(24,E9 r14),(25,Ej r14.length),(26,Ej i29)]) (fun i29 s29=>[(1115,.box 55 (G3.cs y2))]) (fun i29 s29=>s29) (fun i29=>r14.length - i29) 0 s8 h ⟨(by repeat' constructor),⟨⟨_,rfl,.boxL rfl (by repeat' constructor)⟩,G⟩,rfl⟩ rfl ?_
   clear h
   intro i29 s29 hi29 K29 e29
   refine G3b (fun K30 hK30=>Yy (Qm (u:=BL (decide ((i29:Int) < (r14.length:Int)))) hE (Jt O O O) ?_ O O O O))
   refine G32 ?_
   refine hK30 _ _ _ (G3b (fun K31 hK31=>H9d O (fun hb=>?_) (fun hb=>?_)))
   ·
    have hk29:=Q7 hb
    obtain⟨y29,nx29,hy29,hn29,h⟩:=J1 hi29 hk29
    replace h:=Zj hb29 h
    refine Hf9 (hK31 _ _ _ (G3b (fun K32 hK32=>Gf1 (G3b (fun K33 hK33=>Yy (Qm (u:=.dptr [U8 y29]) hE (H9 (f:=U8) (xs:=r14) (y:=y29) O O O G26 hy29 O) ?_ O O O O))))))
    refine Qm (u:=U8 y29) hE (Gi Hw O O O) ?_ O O O O
    refine Qm (u:=U8 y29) hE (G8 O O) ?_ O O O O
    refine G32 ?_
    refine hK33 _ _ _ (G3b (fun K34 hK34=>Yy (Qm (u:=.sc (.func (.yield E.lp) #[] #[])) hE (G5 O O) ?_ O O O O)))
    refine Qm (u:=Ej i2) hE (G5 O O) ?_ O O O O
    refine Qm (u:=Ej i8) hE (G5 O O) ?_ O O O O
    refine Qm (u:=U8 y29) hE (G5 O O) ?_ O O O O
    refine Qm (u:=.agg [Ej i2,Ej i8,U8 y29]) hE (Hp (cs:=[Ej i2,Ej i8,U8 y29]) [(0,1),(1,1),(2,1)] [G0 0,G0 0,U8 0] [.int .i64 0,.int .i64 0,.int .u8 0] Ga0 Gfa ⟨.inl O,.inl O,.inl O,G⟩ O O) ?_ O O O O
    obtain⟨ha35,h⟩:=Jk h
    refine JIL_yield (us:=[.agg [Ej i2,Ej i8,U8 y29]]) hE O O ⟨O,O,G⟩ (yld_at (f:=(fun y:Slot=>[.agg [G0 y.G3,G0 y.Tier,U8 y.Half]])) (x:=(Slot.mk (i2:Int) (i8:Int) y29)) hys ha35) ?_ O O O
    refine Qm (u:=BL false) hE (Ze (b:=true) O O) ?_ O O O O
    refine G32 ?_
    refine hK34 _ _ _ (JI_condF O (Hf9 (hK32 _ _ _ (Yy (Qm (u:=G0 ((i29+1:Nat):Int)) hE (Hv (Hr hk29 hm25) O O O) ?_ O O O O)))))
    refine Qm (u:=G0 ((i29+1:Nat):Int)) hE (G5 O O) ?_ O O O O
    refine G32 ?_
    exact e29 _ _ (i29+1) (s29+1) _ (app1 hn29 h) (by omega) ⟨(by repeat' constructor),⟨⟨_,rfl,.boxL rfl (by repeat' constructor)⟩,G⟩,rfl⟩ rfl
   ·
    have h:=app1 hkx29 (J2 hi29 (Hg hb))
    refine JI_exit (hK11 _ _ _ (Yy (Qm (u:=G0 ((i8+1:Nat):Int)) hE (Hv (Hr hk8 (Ha3 hx8)) O O O) ?_ O O O O)))
    refine Qm (u:=G0 ((i8+1:Nat):Int)) hE (G5 O O) ?_ O O O O
    refine G32 ?_
    exact e8 _ _ (i8+1) s29 _ (app1 hn8 h) (by omega) ⟨(by repeat' constructor),⟨⟨_,rfl,.boxL rfl (by repeat' constructor)⟩,G⟩,rfl⟩ rfl
  ·
   have h:=app1 hkx8 (Hff hi8 (H06 hb))
   refine JI_exit (hK5 _ _ _ (Yy (Qm (u:=G0 ((i2+1:Nat):Int)) hE (Hv (Hr hk2 hm11) O O O) ?_ O O O O)))
   refine Qm (u:=G0 ((i2+1:Nat):Int)) hE (G5 O O) ?_ O O O O
   refine G32 ?_
   exact e2 _ _ (i2+1) s8 _ (app1 hn2 h) (by omega) ⟨(by repeat' constructor),G,rfl⟩ rfl
 ·
  have h:=app1 hkx2 (J2 hi2 (Hg hb))
  refine JI_exit (yld_end (Jk h).1)
theorem Hbc (S_:(Gt)→(Int)→Option (List Slot)) (hS_:∀ p1 p2 r,S_ p1 p2=some r→G69 p1 p2 r=some ()) (p1:Gt) (p2:Int) (r:List Slot) (h:S_ p1 p2=some r):Iter Ek 79 [.dptr (Gt.cs p1),.dptr [U8 p2]] (r.map (fun y:Slot=>[.agg [G0 y.G3,G0 y.Tier,U8 y.Half]])):=Hbb p1 p2 r () (hS_ p1 p2 r h)
end
end Go.Proofs.YtbljcmgjmieffaaGreat
