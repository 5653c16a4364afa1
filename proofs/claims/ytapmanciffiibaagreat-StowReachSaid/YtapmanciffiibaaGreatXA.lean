/-
 Models of functions of the program,and that they return what the models say.
-/
import Derived.Test.YtapmanciffiibaaGreatSortLay
import Derived.Test.YtapmanciffiibaaGreatFres
set_option linter.unnecessarySimpa false
set_option maxRecDepth 100000
set_option linter.unusedVariables false
set_option linter.unusedSimpArgs false
namespace Go.Proofs.YtapmanciffiibaaGreat
open Go.RowKit
noncomputable section
abbrev Ek:=Tryz.prog
structure H4 where
 n:Int
 low:Int
 high:Int
 deriving DecidableEq,Inhabited
def H4.cs (x:H4):List AV:=[G0 x.n,G0 x.low,G0 x.high]
def H4.av (x:H4):AV:=.agg x.cs
structure G3 where
 Bay:Int
 Row:Int
 Deck:Bool
 Tiers:Int
 Height:Int
 Kilos20:Int
 Kilos40:Int
 Lash:Int
 Plugs:List Int
 X:Int
 Y:Int
 Z:Int
 deriving DecidableEq,Inhabited
def G3.cs (x:G3):List AV:=[G0 x.Bay,G0 x.Row,BL x.Deck,G0 x.Tiers,G0 x.Height,G0 x.Kilos20,G0 x.Kilos40,G0 x.Lash,E0 x.Plugs,G0 x.X,G0 x.Y,G0 x.Z]
def G3.av (x:G3):AV:=.agg x.cs
abbrev Ee (x:G3):AV:=.dptr (G3.cs x)
abbrev E7:=LS 12 G3.av
structure G9 where
 Bay:Int
 Rows:List Int
 deriving DecidableEq,Inhabited
def G9.cs (x:G9):List AV:=[G0 x.Bay,E0 x.Rows]
def G9.av (x:G9):AV:=.agg x.cs
abbrev E3:=LS 2 G9.av
structure Light where
 Kilos:Int
 X:Int
 Y:Int
 Z:Int
 deriving DecidableEq,Inhabited
def Light.cs (x:Light):List AV:=[G0 x.Kilos,G0 x.X,G0 x.Y,G0 x.Z]
def Light.av (x:Light):AV:=.agg x.cs
structure Row where
 Draught:Int
 Kilos:Int
 Buoy:Int
 Metacentre:Int
 Turn:Int
 deriving DecidableEq,Inhabited
def Row.cs (x:Row):List AV:=[G0 x.Draught,G0 x.Kilos,G0 x.Buoy,G0 x.Metacentre,G0 x.Turn]
def Row.av (x:Row):AV:=.agg x.cs
abbrev E4:=LS 5 Row.av
structure Frame where
 X:Int
 Light:Int
 Share:Int
 Shear:Int
 Bend:Int
 deriving DecidableEq,Inhabited
def Frame.cs (x:Frame):List AV:=[G0 x.X,G0 x.Light,G0 x.Share,G0 x.Shear,G0 x.Bend]
def Frame.av (x:Frame):AV:=.agg x.cs
abbrev E5:=LS 5 Frame.av
structure Gh where
 Kilos:Int
 X:Int
 Y:Int
 Z:Int
 Surface:Int
 Steps:List Int
 deriving DecidableEq,Inhabited
def Gh.cs (x:Gh):List AV:=[G0 x.Kilos,G0 x.X,G0 x.Y,G0 x.Z,G0 x.Surface,E0 x.Steps]
def Gh.av (x:Gh):AV:=.agg x.cs
abbrev E6:=LS 6 Gh.av
structure G2 where
 Tolerance:Int
 Trim:Int
 List_:Int
 Stability:Int
 deriving DecidableEq,Inhabited
def G2.cs (x:G2):List AV:=[G0 x.Tolerance,G0 x.Trim,G0 x.List_,G0 x.Stability]
def G2.av (x:G2):AV:=.agg x.cs
structure Gu where
 Columns:List G3
 Covers:List G9
 Light:Light
 Rows:List Row
 Frames:List Frame
 Tanks:List Gh
 G2:G2
 deriving DecidableEq,Inhabited
def Gu.cs (x:Gu):List AV:=[E7 x.Columns,E3 x.Covers,G0 x.Light.Kilos,G0 x.Light.X,G0 x.Light.Y,G0 x.Light.Z,E4 x.Rows,E5 x.Frames,E6 x.Tanks,G0 x.G2.Tolerance,G0 x.G2.Trim,G0 x.G2.List_,G0 x.G2.Stability]
def Gu.av (x:Gu):AV:=.agg x.cs
abbrev Ec (x:Gu):AV:=.dptr (Gu.cs x)
structure H0 where
 e0:Int
 e1:Int
 e2:Int
 deriving DecidableEq,Inhabited
def H0.cs (x:H0):List AV:=[G0 x.e0,G0 x.e1,G0 x.e2]
def H0.av (x:H0):AV:=.agg x.cs
def H0.ks (x:H0):List Value:=[.int .i64 x.e0,.int .i64 x.e1,.int .i64 x.e2]
def H0.kv (x:H0):Value:=.agg x.ks.toArray
structure Slot where
 G3:Int
 Tier:Int
 Half:Int
 deriving DecidableEq,Inhabited
def Slot.cs (x:Slot):List AV:=[G0 x.G3,G0 x.Tier,U8 x.Half]
def Slot.av (x:Slot):AV:=.agg x.cs
abbrev Ei (x:Slot):AV:=.dptr (Slot.cs x)
abbrev E8:=LS 3 Slot.av
namespace XAF
theorem tq_110 (a b:H0):H6d Ek 4 110 [.int .i64 a.e0,.int .i64 a.e1,.int .i64 a.e2] [.int .i64 b.e0,.int .i64 b.e1,.int .i64 b.e2]=some (decide (a=b)):=by
 refine(show _=some ((a.e0==b.e0)&&((a.e1==b.e1)&&((a.e2==b.e2)&&true))) by kernel_rfl).trans (congrArg some ?_)
 rw [Bool.eq_iff_iff]
 simp only [Bool.and_eq_true,beq_iff_eq,decide_eq_true_eq,Bool.and_true]
 constructor
 ·intro h; obtain⟨_,_,_⟩:=a; obtain⟨_,_,_⟩:=b; simp_all
 ·intro h; subst h; simp
theorem J94:G73 Ek 149 3=true:=by kernel_rfl
theorem G29:G73 Ek 57 12=true:=by kernel_rfl
theorem Gbf:G73 Ek 94 2=true:=by kernel_rfl
theorem Heb:arrB Ek 110 3 1=true:=by kernel_rfl
theorem J82:Hc Ek 48=true:=by kernel_rfl
theorem Hde:Hc Ek 52=true:=by kernel_rfl
theorem Hd7:Hc Ek 85=true:=by kernel_rfl
theorem Gf3:J7 Ek 149 0 0=true:=by kernel_rfl
theorem Hd2:J7 Ek 149 1 1=true:=by kernel_rfl
theorem Hd1:J7 Ek 149 2 2=true:=by kernel_rfl
theorem Hq:J7 Ek 36 0 0=true:=by kernel_rfl
theorem Jt:J7 Ek 36 1 1=true:=by kernel_rfl
theorem Zi:J7 Ek 57 0 0=true:=by kernel_rfl
theorem Zh:J7 Ek 57 1 1=true:=by kernel_rfl
theorem Gf2:J7 Ek 57 10 10=true:=by kernel_rfl
theorem G8c:J7 Ek 57 11 11=true:=by kernel_rfl
theorem Ym:J7 Ek 57 2 2=true:=by kernel_rfl
theorem G5a:J7 Ek 57 3 3=true:=by kernel_rfl
theorem Gb5:J7 Ek 57 4 4=true:=by kernel_rfl
theorem J35:J7 Ek 57 5 5=true:=by kernel_rfl
theorem J34:J7 Ek 57 6 6=true:=by kernel_rfl
theorem J33:J7 Ek 57 7 7=true:=by kernel_rfl
theorem H2b:J7 Ek 57 8 8=true:=by kernel_rfl
theorem H2a:J7 Ek 57 9 9=true:=by kernel_rfl
theorem G58:J7 Ek 94 0 0=true:=by kernel_rfl
theorem G57:J7 Ek 94 1 1=true:=by kernel_rfl
theorem G24:G42 Ek 109 110 3=true:=by kernel_rfl
theorem Qo:Ek.follows .mixedOrders=true:=by kernel_rfl
theorem Qj:placesOf Ek 149=some [(0,1),(1,1),(2,1)]:=by kernel_rfl
theorem Gd4:placesOf Ek 44=some [(0,1),(1,1),(2,1)]:=by kernel_rfl
theorem J6:Qs Ek 26=true:=by kernel_rfl
theorem Qw:Qs Ek 27=true:=by kernel_rfl
theorem Ge:Qs Ek 3=true:=by kernel_rfl
theorem Qn:Qs Ek 4=true:=by kernel_rfl
theorem Z8:Qs Ek 42=true:=by kernel_rfl
theorem J5:Qs Ek 5=true:=by kernel_rfl
theorem J4e:Qt Ek 149 3=true:=by kernel_rfl
theorem Gcf:Qt Ek 57 12=true:=by kernel_rfl
theorem Hcd:Qt Ek 94 2=true:=by kernel_rfl
theorem G08:sliceB Ek 115 5 1=true:=by kernel_rfl
theorem G78:sliceB Ek 147 149 3=true:=by kernel_rfl
theorem Hx:sliceB Ek 26 57 12=true:=by kernel_rfl
theorem Jw:sliceB Ek 27 94 2=true:=by kernel_rfl
theorem Gj:sliceB Ek 42 3 1=true:=by kernel_rfl
theorem H9b:(Ek.info? 110).bind (fun i=>i.zero.map Value.cells)=some (List.toArray [.int .i64 0,.int .i64 0,.int .i64 0]):=by kernel_rfl
theorem Rh:(Ek.info? 149).bind (fun i=>i.zero.map Value.cells)=some (List.toArray [.int .i64 0,.int .i64 0,.int .i64 0]):=by kernel_rfl
theorem H39:(Ek.info? 44).bind (fun i=>i.zero.map Value.cells)=some (List.toArray [.int .i64 0,.int .i64 0,.int .u8 0]):=by kernel_rfl
theorem Gce:Qh Ek 149 3=true:=by kernel_rfl
theorem Hcc:Qh Ek 5 1=true:=by kernel_rfl
theorem Zu:Qh Ek 57 12=true:=by kernel_rfl
theorem G63:Qh Ek 94 2=true:=by kernel_rfl
theorem H13:(Ek.info? 3).bind (·.zero)=some (.int .i64 0):=by kernel_rfl
theorem H7d:Ga8 Ek 110 H0.kv:=Ga8.of_eq H0.ks (by kernel_rfl) (fun a b h=>by simp only [H0.ks,List.cons.injEq,Value.int.injEq,Value.bool.injEq,Value.string.injEq,true_and,and_true] at h; obtain⟨_,_,_⟩:=a; obtain⟨_,_,_⟩:=b; simp_all) 4 (by decide) (fun a b=>tq_110 a b) (fun a=>by kernel_rfl) (fun a=>by simp [Instr.sameBits,H0.ks])
end XAF
open XAF

def Z5 (l:List H4):Option Bool:=
 each (fun y18 i18 (s18:Unit) nx18=>
  bif ((decide (y18.n < y18.low))||(decide (y18.high < y18.n))) then
  (some false)
  else
  (nx18 ()))
 (fun(s18:Unit)=>
  some true) l 0 ()
theorem Gc7 (l:List H4) (r:Bool) (h:Z5 l=some r):Pure Ek 85 [LS 3 H4.av l] (·=BL r):=by
 unfold Z5 at h
 refine H1 [.tmp 2] Tryz.func85 O O (Jr fun hK1=>(Rq (BL false) O (G7 (hK1 (Js fun hK2=>Jr fun hK3=>(Rq (LS 3 H4.av l) O (JLl G78 O O O fun hm6=>(Rq (G0 0) O (G7 (hK3 (Gv ?_)))))))))))
 obtain⟨b18,kx18,hb18,hkx18,h⟩:=Ja h
 refine Hr (fun i18 (s18:Unit)=>each b18 kx18 (List.drop i18 l) i18 s18=some r) (fun i18 s18=>[(5,LS 3 H4.av l),(6,Ej l.length),(7,Ej i18)]) (fun i18 s18=>[]) (fun i18=>l.length - i18) 0 () h ⟨⟨.same O,.same O,.same O,G⟩,G,O⟩ ?_
 clear h
 intro i18 s18 hi18 K18 e18
 refine Jr fun hK19=>(JLh (BL (decide ((i18:Int) < (l.length:Int)))) (Jc O O O) O (G7 (hK19 (Js fun hK20=>Gm O (fun hb=>?_) (fun hb=>?_)))))
 ·
  have hk18:=Jz hb
  obtain⟨y18,nx18,hy18,hn18,h⟩:=Hu hi18 hk18
  replace h:=Zr hb18 h
  refine Gp (hK20 (Js fun hK21=>Gv (Jr fun hK22=>(JLh (.dptr [G0 y18.n,G0 y18.low,G0 y18.high]) (He (f:=H4.av) (xs:=l) (y:=y18) O O O G78 hy18 O) O (JLh (.agg [G0 y18.n,G0 y18.low,G0 y18.high]) (Gk J94 O O O) O (JLh (.ptr 1106 0) (Jb 1106 3 Gce O O) O (J8 (u:=.junk) (Ht (u:=.agg [G0 y18.n,G0 y18.low,G0 y18.high]) (ds:=[G0 y18.n,G0 y18.low,G0 y18.high]) J4e O O O O O O O O) (G7 (hK22 (Gs [(4,.dptr [G0 y18.n,G0 y18.low,G0 y18.high]),(5,LS 3 H4.av l),(6,Ej l.length),(7,Ej i18)] [] 1106 rfl rfl rfl G rfl (by repeat' (first | exact .ptr | constructor)) ?_))))))))))
  refine Jr fun hK23=>(JLh (.dptr [G0 y18.n,G0 y18.low,G0 y18.high]) (Gd Gf3 O O O) O (JLh (G0 y18.n) (Gi Ge O O O) O (JLh (.dptr [G0 y18.low,G0 y18.high]) (Gd Hd2 O O O) O (JLh (G0 y18.low) (Gi Ge O O O) O (JLh (BL (decide (y18.n < y18.low))) (Jc O O O) O (Rq (BL (decide (y18.n < y18.low))) O (JLo (.dptr [G0 y18.n,G0 y18.low,G0 y18.high]) [] O .scf G (fun hc=>Gd Gf3 O O O) O (JLo (G0 y18.n) [17] O .scf ⟨Ua,G⟩ (fun hc=>Gi Ge O O O) O (JLo (.dptr [G0 y18.high]) [] O .scf G (fun hc=>Gd Hd1 O O O) O (JLo (G0 y18.high) [19] O .scf ⟨Ua,G⟩ (fun hc=>Gi Ge O O O) O (JLo (BL (decide (y18.high < y18.n))) [18,20] O .scf ⟨Ua,Ua,G⟩ (fun hc=>G47 O O O) O (JLh (BL ((decide (y18.n < y18.low))||(decide (y18.high < y18.n)))) (G44 O O O O) O (G7 (hK23 ?_))))))))))))))
  refine JCc O h (fun h hb=>?_) (fun h hb=>?_)
  ·
   refine Jr fun hK24=>(Rq (BL false) O (G7 (hK24 (Gt (fin1 BL h)))))
  ·
   refine Gp (hK21 (G4 (JLh (G0 ((i18+1:Nat):Int)) (J0 (Ho hk18 hm6) O O O) O (Rq (G0 ((i18+1:Nat):Int)) O (G7 (e18 _ _ (i18+1) () (app1 hn18 h) (by omega) ⟨⟨.same rfl,.same rfl,.same rfl,G⟩,G,rfl⟩))))))
 ·
  have h:=app1 hkx18 (Hv hi18 (Hi hb))
  refine Hy (hK2 (Jr fun hK25=>(Rq (BL true) O (G7 (hK25 (Gt (fin1 BL h)))))))

def G11 (c:G3):Option Bool:=
 each (fun y27 i27 (s27:Unit) nx27=>
  wrp (c.Tiers - 1) fun v33=>
  bnd (Z5 [(H4.mk y27 0 v33)]) fun r34=>
  bnd (bif ((!(!r34))&&(decide (0 < (i27:Int)))) then some (IntKind.i64.wrap ((i27:Int) - 1)) else some 0) fun v35=>
  bnd (bif ((!(!r34))&&(decide (0 < (i27:Int)))) then Z1 c.Plugs v35 some else some default) fun y36=>
  bif ((!r34)||((decide (0 < (i27:Int)))&&(decide (y27≤y36)))) then
  (some false)
  else
  (nx27 ()))
 (fun(s27:Unit)=>
  bnd (Z5 [(H4.mk c.Bay 0 39),(H4.mk c.Row 0 30),(H4.mk c.Tiers 1 10),(H4.mk c.Height 0 40000),(H4.mk c.Kilos20 0 500000000),(H4.mk c.Kilos40 0 500000000),(H4.mk c.Lash 0 1000000000000),(H4.mk c.X (-500000) 500000),(H4.mk c.Y (-500000) 500000),(H4.mk c.Z (-500000) 500000)]) fun r39=>
  some r39) c.Plugs 0 ()
theorem J16 (c:G3) (r:Bool) (h:G11 c=some r):Pure Ek 48 [.agg (G3.cs c)] (·=BL r):=by
 unfold G11 at h
 refine H1 [.tmp 2] Tryz.func48 O O (Jr fun hK1=>(JLh (.ptr 1083 0) (Jf (cs:=(G3.cs c)) 1083 O O O O O) O (Rq (BL false) O (G7 (hK1 (Gs [(1,Ee c)] [] 1083 rfl rfl rfl G rfl (by exact⟨.ptr,G⟩) (Jr fun hK2=>(Rq (.fn 85 []) O (G7 (hK2 (Js fun hK3=>Jr fun hK4=>(JLh (.dptr [E0 c.Plugs,G0 c.X,G0 c.Y,G0 c.Z]) (Gd H2b O O O) O (JLh (E0 c.Plugs) (Gi Z8 O O O) O (JLl Gj O O O fun hm8=>(Rq (G0 0) O (G7 (hK4 (Gv ?_))))))))))))))))))
 obtain⟨b27,kx27,hb27,hkx27,h⟩:=Ja h
 refine Hr (fun i27 (s27:Unit)=>each b27 kx27 (List.drop i27 c.Plugs) i27 s27=some r) (fun i27 s27=>[(1,Ee c),(3,.fn 85 []),(7,E0 c.Plugs),(8,Ej c.Plugs.length),(9,Ej i27)]) (fun i27 s27=>[]) (fun i27=>c.Plugs.length - i27) 0 () h ⟨(by repeat' constructor),G,rfl⟩ ?_
 clear h
 intro i27 s27 hi27 K27 e27
 refine Jr fun hK28=>(JLh (BL (decide ((i27:Int) < (c.Plugs.length:Int)))) (Jc O O O) O (G7 (hK28 (Js fun hK29=>Gm O (fun hb=>?_) (fun hb=>?_)))))
 ·
  have hk27:=Jz hb
  obtain⟨y27,nx27,hy27,hn27,h⟩:=Hu hi27 hk27
  replace h:=Zr hb27 h
  refine Gp (hK29 (Js fun hK30=>Gv (Jr fun hK31=>(Rq (Ej i27) O (JLh (.dptr [G0 y27]) (He (f:=G0) (xs:=c.Plugs) (y:=y27) O O O Gj hy27 O) O (JLh (G0 y27) (Gi Ge O O O) O (Rq (Ej i27) O (Rq (G0 y27) O (G7 (hK31 (Jr fun hK32=>(Rq (.fn 85 []) O (Rq (G0 y27) O (JLh (.dptr [G0 c.Tiers,G0 c.Height,G0 c.Kilos20,G0 c.Kilos40,G0 c.Lash,E0 c.Plugs,G0 c.X,G0 c.Y,G0 c.Z]) (Gd G5a O O O) O (JLh (G0 c.Tiers) (Gi Ge O O O) O ?_)))))))))))))))
  obtain⟨v33,hv33,h⟩:=wrp_out h
  refine JLh (G0 v33) (H36 hv33 O O O) O (JLh (.agg [G0 y27,G0 0,G0 v33]) (Hp (cs:=[G0 y27,G0 0,G0 v33]) [(0,1),(1,1),(2,1)] [G0 0,G0 0,G0 0] [.int .i64 0,.int .i64 0,.int .i64 0] Qj Rh ⟨.inl O,.inl O,.inl O,G⟩ O O) O (JLh (LS 3 H4.av [(H4.mk y27 0 v33)]) (H9 (xs:=[.agg [G0 y27,G0 0,G0 v33]]) O ⟨O,O,G⟩ G78 Gce O O O O) O ?_))
  obtain⟨r34,hr34,h⟩:=Gg h
  refine JLh (BL r34) (G20 (args:=[LS 3 H4.av [(H4.mk y27 0 v33)]]) (caps:=[]) O O (Gc7 [(H4.mk y27 0 v33)] r34 hr34) Hd7 ⟨O,O,G⟩ O) O (JLh (BL (!r34)) (G06 (b:=r34) O O) O (Rq (BL (!r34)) O (JLo (Ej i27) [] O .scf G (fun hc=>G6 O O) O (JLo (BL (decide (0 < (i27:Int)))) [24] O .scf ⟨Ua,G⟩ (fun hc=>G47 O O O) O (JLo (BL (decide (0 < (i27:Int)))) [25] O .scf ⟨Ua,G⟩ (fun hc=>G6 O O) O (JLo (G0 y27) [] O .optt G (fun hc=>G6 O O) O (JLo (.dptr [E0 c.Plugs,G0 c.X,G0 c.Y,G0 c.Z]) [] O .optt G (fun hc=>Gd H2b O O O) O (JLo (E0 c.Plugs) [28] O .optt ⟨Ua,G⟩ (fun hc=>Gi Z8 O O O) O (JLo (Ej i27) [] O .optt G (fun hc=>G6 O O) O ?_)))))))))
  obtain⟨v35,hv35,h⟩:=Gg h
  refine JLo (G0 v35) [30] O .optt ⟨Ua,G⟩ (fun hc=>H36 (Option.some.inj (H6 hc hv35)) O O O) O ?_
  obtain⟨y36,hy36,h⟩:=Gg h
  refine JLo (.dptr [G0 y36]) [29,31] O .optt ⟨Ua,Ua,G⟩ (fun hc=>(match Ya (H6 hc hy36) with | ⟨_,hm_,hy_⟩=>He (f:=G0) (xs:=c.Plugs) (y:=y36) O O O Gj hy_ hm_)) O (JLo (G0 y36) [32] O .optt ⟨Ua,G⟩ (fun hc=>Gi Ge O O O) O (JLo (BL (decide (y27≤y36))) [27,33] O .optt ⟨Ua,Ua,G⟩ (fun hc=>Hb7 O O O) O (Gc (u:=BL ((decide (0 < (i27:Int)))&&(decide (y27≤y36)))) [(26,BL (decide (0 < (i27:Int)))),(34,_)] O O O .scf ⟨.all id,.part,G⟩ (fun hc=>Qu O O O O) ?_)))
  refine JLh (BL ((!r34)||((decide (0 < (i27:Int)))&&(decide (y27≤y36))))) (G44 O O O O) O (G7 (hK32 (JCc O h (fun h hb=>?_) (fun h hb=>?_))))
  ·
   refine Jr fun hK37=>(Rq (BL false) O (G7 (hK37 (Gt (fin1 BL h)))))
  ·
   refine Gp (hK30 (G4 (JLh (G0 ((i27+1:Nat):Int)) (J0 (Ho hk27 hm8) O O O) O (Rq (G0 ((i27+1:Nat):Int)) O (G7 (e27 _ _ (i27+1) () (app1 hn27 h) (by omega) ⟨(by repeat' constructor),G,rfl⟩))))))
 ·
  have h:=app1 hkx27 (Hv hi27 (Hi hb))
  refine Hy (hK3 ?_)
  refine Jr fun hK38=>(Rq (.fn 85 []) O (JLh (Ee c) (Gd Zi O O O) O (JLh (G0 c.Bay) (Gi Ge O O O) O (JLh (.agg [G0 c.Bay,G0 0,G0 39]) (Hp (cs:=[G0 c.Bay,G0 0,G0 39]) [(0,1),(1,1),(2,1)] [G0 0,G0 0,G0 0] [.int .i64 0,.int .i64 0,.int .i64 0] Qj Rh ⟨.inl O,.inl O,.inl O,G⟩ O O) O (JLh (.dptr [G0 c.Row,BL c.Deck,G0 c.Tiers,G0 c.Height,G0 c.Kilos20,G0 c.Kilos40,G0 c.Lash,E0 c.Plugs,G0 c.X,G0 c.Y,G0 c.Z]) (Gd Zh O O O) O (JLh (G0 c.Row) (Gi Ge O O O) O (JLh (.agg [G0 c.Row,G0 0,G0 30]) (Hp (cs:=[G0 c.Row,G0 0,G0 30]) [(0,1),(1,1),(2,1)] [G0 0,G0 0,G0 0] [.int .i64 0,.int .i64 0,.int .i64 0] Qj Rh ⟨.inl O,.inl O,.inl O,G⟩ O O) O (JLh (.dptr [G0 c.Tiers,G0 c.Height,G0 c.Kilos20,G0 c.Kilos40,G0 c.Lash,E0 c.Plugs,G0 c.X,G0 c.Y,G0 c.Z]) (Gd G5a O O O) O (JLh (G0 c.Tiers) (Gi Ge O O O) O (JLh (.agg [G0 c.Tiers,G0 1,G0 10]) (Hp (cs:=[G0 c.Tiers,G0 1,G0 10]) [(0,1),(1,1),(2,1)] [G0 0,G0 0,G0 0] [.int .i64 0,.int .i64 0,.int .i64 0] Qj Rh ⟨.inl O,.inl O,.inl O,G⟩ O O) O (JLh (.dptr [G0 c.Height,G0 c.Kilos20,G0 c.Kilos40,G0 c.Lash,E0 c.Plugs,G0 c.X,G0 c.Y,G0 c.Z]) (Gd Gb5 O O O) O (JLh (G0 c.Height) (Gi Ge O O O) O (JLh (.agg [G0 c.Height,G0 0,G0 40000]) (Hp (cs:=[G0 c.Height,G0 0,G0 40000]) [(0,1),(1,1),(2,1)] [G0 0,G0 0,G0 0] [.int .i64 0,.int .i64 0,.int .i64 0] Qj Rh ⟨.inl O,.inl O,.inl O,G⟩ O O) O ?_)))))))))))))
  refine JLh (.dptr [G0 c.Kilos20,G0 c.Kilos40,G0 c.Lash,E0 c.Plugs,G0 c.X,G0 c.Y,G0 c.Z]) (Gd J35 O O O) O (JLh (G0 c.Kilos20) (Gi Ge O O O) O (JLh (.agg [G0 c.Kilos20,G0 0,G0 500000000]) (Hp (cs:=[G0 c.Kilos20,G0 0,G0 500000000]) [(0,1),(1,1),(2,1)] [G0 0,G0 0,G0 0] [.int .i64 0,.int .i64 0,.int .i64 0] Qj Rh ⟨.inl O,.inl O,.inl O,G⟩ O O) O (JLh (.dptr [G0 c.Kilos40,G0 c.Lash,E0 c.Plugs,G0 c.X,G0 c.Y,G0 c.Z]) (Gd J34 O O O) O (JLh (G0 c.Kilos40) (Gi Ge O O O) O (JLh (.agg [G0 c.Kilos40,G0 0,G0 500000000]) (Hp (cs:=[G0 c.Kilos40,G0 0,G0 500000000]) [(0,1),(1,1),(2,1)] [G0 0,G0 0,G0 0] [.int .i64 0,.int .i64 0,.int .i64 0] Qj Rh ⟨.inl O,.inl O,.inl O,G⟩ O O) O (JLh (.dptr [G0 c.Lash,E0 c.Plugs,G0 c.X,G0 c.Y,G0 c.Z]) (Gd J33 O O O) O (JLh (G0 c.Lash) (Gi Ge O O O) O (JLh (.agg [G0 c.Lash,G0 0,G0 1000000000000]) (Hp (cs:=[G0 c.Lash,G0 0,G0 1000000000000]) [(0,1),(1,1),(2,1)] [G0 0,G0 0,G0 0] [.int .i64 0,.int .i64 0,.int .i64 0] Qj Rh ⟨.inl O,.inl O,.inl O,G⟩ O O) O (JLh (.dptr [G0 c.X,G0 c.Y,G0 c.Z]) (Gd H2a O O O) O (JLh (G0 c.X) (Gi Ge O O O) O (JLh (.agg [G0 c.X,G0 (-500000),G0 500000]) (Hp (cs:=[G0 c.X,G0 (-500000),G0 500000]) [(0,1),(1,1),(2,1)] [G0 0,G0 0,G0 0] [.int .i64 0,.int .i64 0,.int .i64 0] Qj Rh ⟨.inl O,.inl O,.inl O,G⟩ O O) O (JLh (.dptr [G0 c.Y,G0 c.Z]) (Gd Gf2 O O O) O (JLh (G0 c.Y) (Gi Ge O O O) O ?_)))))))))))))
  refine JLh (.agg [G0 c.Y,G0 (-500000),G0 500000]) (Hp (cs:=[G0 c.Y,G0 (-500000),G0 500000]) [(0,1),(1,1),(2,1)] [G0 0,G0 0,G0 0] [.int .i64 0,.int .i64 0,.int .i64 0] Qj Rh ⟨.inl O,.inl O,.inl O,G⟩ O O) O (JLh (.dptr [G0 c.Z]) (Gd G8c O O O) O (JLh (G0 c.Z) (Gi Ge O O O) O (JLh (.agg [G0 c.Z,G0 (-500000),G0 500000]) (Hp (cs:=[G0 c.Z,G0 (-500000),G0 500000]) [(0,1),(1,1),(2,1)] [G0 0,G0 0,G0 0] [.int .i64 0,.int .i64 0,.int .i64 0] Qj Rh ⟨.inl O,.inl O,.inl O,G⟩ O O) O (JLh (LS 3 H4.av [(H4.mk c.Bay 0 39),(H4.mk c.Row 0 30),(H4.mk c.Tiers 1 10),(H4.mk c.Height 0 40000),(H4.mk c.Kilos20 0 500000000),(H4.mk c.Kilos40 0 500000000),(H4.mk c.Lash 0 1000000000000),(H4.mk c.X (-500000) 500000),(H4.mk c.Y (-500000) 500000),(H4.mk c.Z (-500000) 500000)]) (H9 (xs:=[.agg [G0 c.Bay,G0 0,G0 39],.agg [G0 c.Row,G0 0,G0 30],.agg [G0 c.Tiers,G0 1,G0 10],.agg [G0 c.Height,G0 0,G0 40000],.agg [G0 c.Kilos20,G0 0,G0 500000000],.agg [G0 c.Kilos40,G0 0,G0 500000000],.agg [G0 c.Lash,G0 0,G0 1000000000000],.agg [G0 c.X,G0 (-500000),G0 500000],.agg [G0 c.Y,G0 (-500000),G0 500000],.agg [G0 c.Z,G0 (-500000),G0 500000]]) O ⟨O,O,O,O,O,O,O,O,O,O,O,O,O,O,O,O,O,O,O,O,G⟩ G78 Gce O O O O) O ?_))))
  obtain⟨r39,hr39,h⟩:=Gg h
  refine JLh (BL r39) (G20 (args:=[LS 3 H4.av [(H4.mk c.Bay 0 39),(H4.mk c.Row 0 30),(H4.mk c.Tiers 1 10),(H4.mk c.Height 0 40000),(H4.mk c.Kilos20 0 500000000),(H4.mk c.Kilos40 0 500000000),(H4.mk c.Lash 0 1000000000000),(H4.mk c.X (-500000) 500000),(H4.mk c.Y (-500000) 500000),(H4.mk c.Z (-500000) 500000)]]) (caps:=[]) O O (Gc7 [(H4.mk c.Bay 0 39),(H4.mk c.Row 0 30),(H4.mk c.Tiers 1 10),(H4.mk c.Height 0 40000),(H4.mk c.Kilos20 0 500000000),(H4.mk c.Kilos40 0 500000000),(H4.mk c.Lash 0 1000000000000),(H4.mk c.X (-500000) 500000),(H4.mk c.Y (-500000) 500000),(H4.mk c.Z (-500000) 500000)] r39 hr39) Hd7 ⟨O,O,G⟩ O) O (Rq (BL r39) O (G7 (hK38 (Gt (fin1 BL h)))))

def G3f (s:Gu) (Rp:Bool→Prop):Option Prop:=
 bif (((decide ((s.Columns.length:Int) < 1))||(decide (200 < (s.Columns.length:Int))))||(decide (40 < (s.Covers.length:Int)))) then
 (some (Rp false))
 else
 (each (fun y68 i68 (s68:(H8 H0 Int)) nx68=>
   jp (fun kj74=>
    bif y68.Deck then
    (kj74 1)
    else
    (kj74 0)) fun(j74:Int)=>
   bnd (some (H8.get s68 (H0.mk y68.Bay y68.Row j74) 0)) fun v77=>
   G15 (v77+1) fun v78=>
   bnd (G11 y68) fun r80=>
   bif (!r80) then
   (some (Rp false))
   else
   (nx68 (H8.put s68 (H0.mk y68.Bay y68.Row j74) v78)))
  (fun(s68:(H8 H0 Int))=>
   each (fun y84 i84 (s84:(H8 H0 Int)) nx84=>
    bif (((decide (y84.Bay < 0))||(decide (40≤y84.Bay)))||(decide ((y84.Rows.length:Int)=0))) then
    (some (Rp false))
    else
    (each (fun y157 i157 (s157:(H8 H0 Int)) nx157=>
      bnd (bif ((!((decide (y157 < 0))||(decide (30 < y157))))&&(decide (0 < (i157:Int)))) then G15 ((i157:Int) - 1) some else some 0) fun v164=>
      bnd (bif ((!((decide (y157 < 0))||(decide (30 < y157))))&&(decide (0 < (i157:Int)))) then Z1 y84.Rows v164 some else some default) fun y165=>
      bif (((decide (y157 < 0))||(decide (30 < y157)))||((decide (0 < (i157:Int)))&&(decide (y157≤y165)))) then
      (some (Rp false))
      else
      (bnd (some (H8.get s157 (H0.mk y84.Bay y157 2) 0)) fun v167=>
       G15 (v167+1) fun v168=>
       nx157 (H8.put s157 (H0.mk y84.Bay y157 2) v168)))
     (fun(s157:(H8 H0 Int))=>
      nx84 s157) y84.Rows 0 s84))
   (fun(s84:(H8 H0 Int))=>
    eachM (fun(x176:H0×Int) (s176:Unit) nx176=>
     bif decide (1 < x176.2) then
     (lft (some (Rp false)))
     else
     (nx176 ()))
    (fun(s176:Unit)=>
     some (Rp true)) (H8.l s84) ()) s.Covers 0 s68) s.Columns 0 (H8.empty:H8 H0 Int))
def G85 (s:Gu):Option Bool:=
 bif (((decide ((s.Columns.length:Int) < 1))||(decide (200 < (s.Columns.length:Int))))||(decide (40 < (s.Covers.length:Int)))) then
 (some (id false))
 else
 (each (fun y68 i68 (s68:(H8 H0 Int)) nx68=>
   jp (fun kj74=>
    bif y68.Deck then
    (kj74 1)
    else
    (kj74 0)) fun(j74:Int)=>
   bnd (some (H8.get s68 (H0.mk y68.Bay y68.Row j74) 0)) fun v77=>
   G15 (v77+1) fun v78=>
   bnd (G11 y68) fun r80=>
   bif (!r80) then
   (some (id false))
   else
   (nx68 (H8.put s68 (H0.mk y68.Bay y68.Row j74) v78)))
  (fun(s68:(H8 H0 Int))=>
   each (fun y84 i84 (s84:(H8 H0 Int)) nx84=>
    bif (((decide (y84.Bay < 0))||(decide (40≤y84.Bay)))||(decide ((y84.Rows.length:Int)=0))) then
    (some (id false))
    else
    (each (fun y157 i157 (s157:(H8 H0 Int)) nx157=>
      bnd (bif ((!((decide (y157 < 0))||(decide (30 < y157))))&&(decide (0 < (i157:Int)))) then G15 ((i157:Int) - 1) some else some 0) fun v164=>
      bnd (bif ((!((decide (y157 < 0))||(decide (30 < y157))))&&(decide (0 < (i157:Int)))) then Z1 y84.Rows v164 some else some default) fun y165=>
      bif (((decide (y157 < 0))||(decide (30 < y157)))||((decide (0 < (i157:Int)))&&(decide (y157≤y165)))) then
      (some (id false))
      else
      (bnd (some (H8.get s157 (H0.mk y84.Bay y157 2) 0)) fun v167=>
       G15 (v167+1) fun v168=>
       nx157 (H8.put s157 (H0.mk y84.Bay y157 2) v168)))
     (fun(s157:(H8 H0 Int))=>
      nx84 s157) y84.Rows 0 s84))
   (fun(s84:(H8 H0 Int))=>
    H61 (fun(x176:H0×Int) (s176:Unit) nx176=>
     bif decide (1 < x176.2) then
     (lft (some (id false)))
     else
     (nx176 ()))
    (fun(s176:Unit)=>
     some (id true)) (H8.l s84) ()) s.Covers 0 s68) s.Columns 0 (H8.empty:H8 H0 Int))
theorem J18 (s:Gu) (Rp:Bool→Prop) (p:Prop) (h:G3f s Rp=some p) (hp:p):Pure Ek 22 [.agg (Gu.cs s)] (fun av=>∃ r,Rp r∧av=BL r):=by
 unfold G3f at h
 refine H1 [.tmp 2] Tryz.func22 O O (Jr fun hK1=>(JLh (.ptr 1047 0) (Jf (cs:=(Gu.cs s)) 1047 O O O O O) O (Rq (BL false) O (G7 (hK1 (Gs [(1,Ec s)] [] 1047 rfl rfl rfl G rfl (by exact⟨.ptr,G⟩) (Js fun hK2=>?_)))))))
 refine Jr fun hK3=>(JLh (Ec s) (Gd Hq O O O) O (JLh (E7 s.Columns) (Gi J6 O O O) O (JLl Hx O O O fun hm15=>(JLh (BL (decide ((s.Columns.length:Int) < 1))) (Jc O O O) O (Rq (BL (decide ((s.Columns.length:Int) < 1))) O (JLo (Ec s) [] O .scf G (fun hc=>Gd Hq O O O) O (JLo (E7 s.Columns) [18] O .scf ⟨Ua,G⟩ (fun hc=>Gi J6 O O O) O (JLo (Ej s.Columns.length) [19] O .scf ⟨Ua,G⟩ (fun hc=>Z6 (f:=G3.av) (xs:=s.Columns) Hx O O) O (JLo (BL (decide (200 < (s.Columns.length:Int)))) [20] O .scf ⟨Ua,G⟩ (fun hc=>G47 O O O) O (JLh (BL ((decide ((s.Columns.length:Int) < 1))||(decide (200 < (s.Columns.length:Int))))) (G44 O O O O) O (Rq (BL ((decide ((s.Columns.length:Int) < 1))||(decide (200 < (s.Columns.length:Int))))) O (JLo (.dptr [E3 s.Covers,G0 s.Light.Kilos,G0 s.Light.X,G0 s.Light.Y,G0 s.Light.Z,E4 s.Rows,E5 s.Frames,E6 s.Tanks,G0 s.G2.Tolerance,G0 s.G2.Trim,G0 s.G2.List_,G0 s.G2.Stability]) [] O .scf G (fun hc=>Gd Jt O O O) O (JLo (E3 s.Covers) [24] O .scf ⟨Ua,G⟩ (fun hc=>Gi Qw O O O) O ?_)))))))))))))
 refine JLo (Ej s.Covers.length) [25] O .scf ⟨Ua,G⟩ (fun hc=>Z6 (f:=G9.av) (xs:=s.Covers) Jw O O) O (JLo (BL (decide (40 < (s.Covers.length:Int)))) [26] O .scf ⟨Ua,G⟩ (fun hc=>G47 O O O) O (JLh (BL (((decide ((s.Columns.length:Int) < 1))||(decide (200 < (s.Columns.length:Int))))||(decide (40 < (s.Covers.length:Int))))) (G44 O O O O) O (G7 (hK3 (JCc O h (fun h hb=>?_) (fun h hb=>?_))))))
 ·
  refine Jr fun hK4=>(Rq (BL false) O (G7 (hK4 (Gt (⟨[BL false],[],G,O,⟨⟨_,O,.conv (.same O)⟩,G⟩,O,false,Eq.mpr (Option.some.inj h) hp,O⟩)))))
 ·
  refine Gp (hK2 (Jr fun hK5=>(JLh (.mp 1050) (J23 1050 H0.kv G0 O O) O (Rq (.mp 1050) O (G7 (hK5 (Js fun hK6=>Jr fun hK7=>(JLh (Ec s) (Gd Hq O O O) O (JLh (E7 s.Columns) (Gi J6 O O O) O (JLl Hx O O O fun hm32=>(Rq (G0 0) O (G7 (hK7 (Gv ?_))))))))))))))
  obtain⟨b68,kx68,hb68,hkx68,h⟩:=Ja h
  refine Hr (fun i68 (s68:(H8 H0 Int))=>each b68 kx68 (List.drop i68 s.Columns) i68 s68=some p) (fun i68 s68=>[(1,Ec s),(3,.mp 1050),(31,E7 s.Columns),(32,Ej s.Columns.length),(33,Ej i68)]) (fun i68 s68=>[(1050,MP 109 H0.kv G0 s68)]) (fun i68=>s.Columns.length - i68) 0 (H8.empty:H8 H0 Int) h ⟨(by repeat' constructor),⟨⟨_,rfl,.map⟩,G⟩,rfl⟩ ?_
  clear h
  intro i68 s68 hi68 K68 e68
  refine Jr fun hK69=>(JLh (BL (decide ((i68:Int) < (s.Columns.length:Int)))) (Jc O O O) O (G7 (hK69 (Js fun hK70=>Gm O (fun hb=>?_) (fun hb=>?_)))))
  ·
   have hk68:=Jz hb
   obtain⟨y68,nx68,hy68,hn68,h⟩:=Hu hi68 hk68
   replace h:=Zr hb68 h
   refine Gp (hK70 (Js fun hK71=>Gv (Jr fun hK72=>(JLh (Ee y68) (He (f:=G3.av) (xs:=s.Columns) (y:=y68) O O O Hx hy68 O) O (JLh (.agg (G3.cs y68)) (Gk G29 O O O) O (JLh (.ptr 1048 0) (Jb 1048 12 Zu O O) O (J8 (u:=.junk) (Ht (u:=.agg (G3.cs y68)) (ds:=(G3.cs y68)) Gcf O O O O O O O O) (G7 (hK72 ?_)))))))))
   refine Gs [(1,Ec s),(3,.mp 1050),(5,Ee y68),(31,E7 s.Columns),(32,Ej s.Columns.length),(33,Ej i68)] [(1050,MP 109 H0.kv G0 s68)] 1048 rfl rfl rfl ⟨⟨_,rfl,.map⟩,G⟩ rfl (by repeat' (first | exact .ptr | constructor)) (Jr fun hK73=>(Rq (G0 0) O (G7 (hK73 ?_))))
   obtain⟨kj74,hkj74,h⟩:=Yo h
   refine Rb (fun j74:Int=>kj74 j74=some p) (fun j74=>[(1,Ec s),(3,.mp 1050),(5,Ee y68),(6,G0 j74),(31,E7 s.Columns),(32,Ej s.Columns.length),(33,Ej i68)]) (fun j74=>[(1050,MP 109 H0.kv G0 s68)]) (fun Kj74 ej74=>?_) ?_
   ·
    refine Jr fun hK75=>(JLh (.dptr ((G3.cs y68).drop 2)) (Gd Ym O O O) O (JLh (BL y68.Deck) (Gi Qn O O O) O (G7 (hK75 (JCc O h (fun h hb=>?_) (fun h hb=>?_))))))
    ·
     refine G4 (Rq (G0 1) O (G7 (ej74 _ _ 1 h ⟨(by repeat' constructor),⟨⟨_,rfl,.map⟩,G⟩,rfl⟩)))
    ·
     refine Gp (ej74 _ _ 0 h ⟨(by repeat' constructor),⟨⟨_,rfl,.map⟩,G⟩,rfl⟩)
   ·intro j74 h
    replace h:=app1 hkj74 h
    refine Js fun hK76=>Za (l':=[(1,Ec s),(3,.mp 1050),(5,Ee y68),(6,G0 j74),(31,E7 s.Columns),(32,Ej s.Columns.length),(33,Ej i68)]) (L':=[(1050,MP 109 H0.kv G0 s68)]) ⟨(by repeat' constructor),⟨⟨_,rfl,.map⟩,G⟩,rfl⟩ ?_
    obtain⟨v77,hv77,h⟩:=Gg h
    obtain⟨v78,hv78,h⟩:=Jj h
    refine Q9 [9,11] [0,0,0,0,0,0,0,0,0,0,1,0] [0,0,0,0,0,0,0,1,1,0,1,0] [[(1050,MP 109 H0.kv G0 s68)],((1050,MI 109 H0.kv G0 s68 (H0.mk y68.Bay y68.Row j74) 0)::[(1050,MP 109 H0.kv G0 s68)]),((1050,MP 109 H0.kv G0 (H8.put s68 (H0.mk y68.Bay y68.Row j74) v78))::((1050,MI 109 H0.kv G0 s68 (H0.mk y68.Bay y68.Row j74) 0)::[(1050,MP 109 H0.kv G0 s68)]))] Qo (by kernel_rfl) rfl rfl ?_
    refine Gq (u:=.mp 1050) O O ⟨Gx (G6 O O) O,G⟩ (Gq (u:=Ee y68) O O ⟨Gx (Gd Zi O O O) O,G⟩ (Gq (u:=G0 y68.Bay) O O ⟨Gx (Gi Ge O O O) O,G⟩ (Gq (u:=.dptr ((G3.cs y68).drop 1)) O O ⟨Gx (Gd Zh O O O) O,G⟩ (Gq (u:=G0 y68.Row) O O ⟨Gx (Gi Ge O O O) O,G⟩ (Gq (u:=G0 j74) O O ⟨Gx (G6 O O) O,G⟩ (Gq (u:=.agg [G0 y68.Bay,G0 y68.Row,G0 j74]) O O ⟨Gx (H51 (cs:=[G0 y68.Bay,G0 y68.Row,G0 j74]) [.int .i64 0,.int .i64 0,.int .i64 0] Heb H9b O O) O,G⟩ (Gq (u:=G0 v77) O O ⟨Gx (((Option.some.inj hv77) ▸ J25 (av:=G0) (m:=s68) (a:=(H0.mk y68.Bay y68.Row j74)) 0 (.int .i64 0) O O O O H7d G24 H13 O)) O,Gx (((Option.some.inj hv77) ▸ J24 (av:=G0) (m:=s68) (a:=(H0.mk y68.Bay y68.Row j74)) 0 (.int .i64 0) O O O O H7d G24 H13 O)) O,G⟩ (Gq (u:=G0 v78) O O ⟨Gx (J0 hv78 O O O) O,Gx (J0 hv78 O O O) O,G⟩ (D_w (u:=.tup [.junk,G0 (Ye (H8.l s68) (H0.mk y68.Bay y68.Row j74):Int)]) O O O O (Gx (Hb6 (m:=s68) (a:=(H0.mk y68.Bay y68.Row j74)) 0 (.int .i64 0) O O O O H7d G24 H13 O) O) (Gq (u:=G0 (Ye (H8.l s68) (H0.mk y68.Bay y68.Row j74):Int)) O O ⟨Gx (Hb O O O) O,G⟩ (D_w0 (u:=.junk) O O O O (Gx (H37 (m:=s68) (a:=(H0.mk y68.Bay y68.Row j74)) (v:=v78) 0 O O O O O O) O) (Z7 ?_))))))))))))
    refine hK76 (Jr fun hK79=>(JLh (.agg (G3.cs y68)) (Gk G29 O O O) O ?_))
    obtain⟨r80,hr80,h⟩:=Gg h
    refine JLh (BL r80) (Gw O (J16 y68 r80 hr80) J82 ⟨O,O,G⟩) O (JLh (BL (!r80)) (G06 (b:=r80) O O) O (G7 (hK79 (JCc O h (fun h hb=>?_) (fun h hb=>?_)))))
    ·
     refine Jr fun hK81=>(Rq (BL false) O (G7 (hK81 (Gt (⟨[BL false],[],G,O,⟨⟨_,O,.conv (.same O)⟩,G⟩,O,false,Eq.mpr (Option.some.inj h) hp,O⟩)))))
    ·
     refine Gp (hK71 (G4 (JLh (G0 ((i68+1:Nat):Int)) (J0 (Ho hk68 hm32) O O O) O (Rq (G0 ((i68+1:Nat):Int)) O (G7 (e68 _ _ (i68+1) (H8.put s68 (H0.mk y68.Bay y68.Row j74) v78) (app1 hn68 h) (by omega) ⟨(by repeat' constructor),⟨⟨_,rfl,.map⟩,G⟩,rfl⟩))))))
  ·
   have h:=app1 hkx68 (Hv hi68 (Hi hb))
   refine Hy (hK6 (Js fun hK82=>Jr fun hK83=>(JLh (.dptr [E3 s.Covers,G0 s.Light.Kilos,G0 s.Light.X,G0 s.Light.Y,G0 s.Light.Z,E4 s.Rows,E5 s.Frames,E6 s.Tanks,G0 s.G2.Tolerance,G0 s.G2.Trim,G0 s.G2.List_,G0 s.G2.Stability]) (Gd Jt O O O) O (JLh (E3 s.Covers) (Gi Qw O O O) O (JLl Jw O O O fun hm56=>(Rq (G0 0) O (G7 (hK83 (Gv ?_)))))))))
   obtain⟨b84,kx84,hb84,hkx84,h⟩:=Ja h
   refine Hr (fun i84 (s84:(H8 H0 Int))=>each b84 kx84 (List.drop i84 s.Covers) i84 s84=some p) (fun i84 s84=>[(3,.mp 1050),(55,E3 s.Covers),(56,Ej s.Covers.length),(57,Ej i84)]) (fun i84 s84=>[(1050,MP 109 H0.kv G0 s84)]) (fun i84=>s.Covers.length - i84) 0 s68 h ⟨(by repeat' constructor),⟨⟨_,rfl,.map⟩,G⟩,rfl⟩ ?_
   clear h
   intro i84 s84 hi84 K84 e84
   refine Jr fun hK85=>(JLh (BL (decide ((i84:Int) < (s.Covers.length:Int)))) (Jc O O O) O (G7 (hK85 (Js fun hK86=>Gm O (fun hb=>?_) (fun hb=>?_)))))
   ·
    have hk84:=Jz hb
    obtain⟨y84,nx84,hy84,hn84,h⟩:=Hu hi84 hk84
    replace h:=Zr hb84 h
    refine Gp (hK86 (Js fun hK87=>Gv (Jr fun hK88=>(JLh (.dptr [G0 y84.Bay,E0 y84.Rows]) (He (f:=G9.av) (xs:=s.Covers) (y:=y84) O O O Jw hy84 O) O (JLh (.agg [G0 y84.Bay,E0 y84.Rows]) (Gk Gbf O O O) O (JLh (.ptr 1049 0) (Jb 1049 2 G63 O O) O (J8 (u:=.junk) (Ht (u:=.agg [G0 y84.Bay,E0 y84.Rows]) (ds:=[G0 y84.Bay,E0 y84.Rows]) Hcd O O O O O O O O) (G7 (hK88 (Gs [(3,.mp 1050),(8,.dptr [G0 y84.Bay,E0 y84.Rows]),(55,E3 s.Covers),(56,Ej s.Covers.length),(57,Ej i84)] [(1050,MP 109 H0.kv G0 s84)] 1049 rfl rfl rfl ⟨⟨_,rfl,.map⟩,G⟩ rfl (by repeat' (first | exact .ptr | constructor)) (Js fun hK89=>?_)))))))))))
    refine Jr fun hK90=>(JLh (.dptr [G0 y84.Bay,E0 y84.Rows]) (Gd G58 O O O) O (JLh (G0 y84.Bay) (Gi Ge O O O) O (JLh (BL (decide (y84.Bay < 0))) (Jc O O O) O (Rq (BL (decide (y84.Bay < 0))) O (JLo (.dptr [G0 y84.Bay,E0 y84.Rows]) [] O .scf G (fun hc=>Gd G58 O O O) O (JLo (G0 y84.Bay) [65] O .scf ⟨Ua,G⟩ (fun hc=>Gi Ge O O O) O (JLo (BL (decide (40≤y84.Bay))) [66] O .scf ⟨Ua,G⟩ (fun hc=>Ga1 O O O) O (JLh (BL ((decide (y84.Bay < 0))||(decide (40≤y84.Bay)))) (G44 O O O O) O (Rq (BL ((decide (y84.Bay < 0))||(decide (40≤y84.Bay)))) O (JLo (.dptr [E0 y84.Rows]) [] O .scf G (fun hc=>Gd G57 O O O) O (JLo (E0 y84.Rows) [70] O .scf ⟨Ua,G⟩ (fun hc=>Gi Z8 O O O) O (JLo (Ej y84.Rows.length) [71] O .scf ⟨Ua,G⟩ (fun hc=>Z6 (f:=G0) (xs:=y84.Rows) Gj O O) O (JLo (BL (decide ((y84.Rows.length:Int)=0))) [72] O .scf ⟨Ua,G⟩ (fun hc=>Qc O O O) O ?_)))))))))))))
    refine JLh (BL (((decide (y84.Bay < 0))||(decide (40≤y84.Bay)))||(decide ((y84.Rows.length:Int)=0)))) (G44 O O O O) O (G7 (hK90 (JCc O h (fun h hb=>?_) (fun h hb=>?_))))
    ·
     refine Jr fun hK91=>(Rq (BL false) O (G7 (hK91 (Gt (⟨[BL false],[],G,O,⟨⟨_,O,.conv (.same O)⟩,G⟩,O,false,Eq.mpr (Option.some.inj h) hp,O⟩)))))
    ·
     refine Gp (hK89 (Jr fun hK92=>(JLh (.dptr [E0 y84.Rows]) (Gd G57 O O O) O (JLh (E0 y84.Rows) (Gi Z8 O O O) O (JLl Gj O O O fun hm77=>(Rq (G0 0) O (G7 (hK92 (Gv ?_)))))))))
     obtain⟨b157,kx157,hb157,hkx157,h⟩:=Ja h
     refine Hr (fun i157 (s157:(H8 H0 Int))=>each b157 kx157 (List.drop i157 y84.Rows) i157 s157=some p) (fun i157 s157=>[(3,.mp 1050),(8,.dptr [G0 y84.Bay,E0 y84.Rows]),(55,E3 s.Covers),(56,Ej s.Covers.length),(57,Ej i84),(76,E0 y84.Rows),(77,Ej y84.Rows.length),(78,Ej i157)]) (fun i157 s157=>[(1050,MP 109 H0.kv G0 s157)]) (fun i157=>y84.Rows.length - i157) 0 s84 h ⟨(by repeat' constructor),⟨⟨_,rfl,.map⟩,G⟩,rfl⟩ ?_
     clear h
     intro i157 s157 hi157 K157 e157
     refine Jr fun hK158=>(JLh (BL (decide ((i157:Int) < (y84.Rows.length:Int)))) (Jc O O O) O (G7 (hK158 (Js fun hK159=>Gm O (fun hb=>?_) (fun hb=>?_)))))
     ·
      have hk157:=Jz hb
      obtain⟨y157,nx157,hy157,hn157,h⟩:=Hu hi157 hk157
      replace h:=Zr hb157 h
      refine Gp (hK159 (Js fun hK160=>Gv (Jr fun hK161=>(Rq (Ej i157) O (JLh (.dptr [G0 y157]) (He (f:=G0) (xs:=y84.Rows) (y:=y157) O O O Gj hy157 O) O (JLh (G0 y157) (Gi Ge O O O) O (Rq (Ej i157) O (Rq (G0 y157) O (G7 (hK161 (Js fun hK162=>?_)))))))))))
      refine Jr fun hK163=>(Rq (G0 y157) O (JLh (BL (decide (y157 < 0))) (Jc O O O) O (Rq (BL (decide (y157 < 0))) O (JLo (G0 y157) [] O .scf G (fun hc=>G6 O O) O (JLo (BL (decide (30 < y157))) [86] O .scf ⟨Ua,G⟩ (fun hc=>G47 O O O) O (JLh (BL ((decide (y157 < 0))||(decide (30 < y157)))) (G44 O O O O) O (Rq (BL ((decide (y157 < 0))||(decide (30 < y157)))) O (JLo (Ej i157) [] O .scf G (fun hc=>G6 O O) O (JLo (BL (decide (0 < (i157:Int)))) [90] O .scf ⟨Ua,G⟩ (fun hc=>G47 O O O) O (JLo (BL (decide (0 < (i157:Int)))) [91] O .scf ⟨Ua,G⟩ (fun hc=>G6 O O) O (JLo (G0 y157) [] O .optt G (fun hc=>G6 O O) O (JLo (.dptr [E0 y84.Rows]) [] O .optt G (fun hc=>Gd G57 O O O) O (JLo (E0 y84.Rows) [94] O .optt ⟨Ua,G⟩ (fun hc=>Gi Z8 O O O) O ?_)))))))))))))
      refine JLo (Ej i157) [] O .optt G (fun hc=>G6 O O) O ?_
      obtain⟨v164,hv164,h⟩:=Gg h
      refine JLo (G0 v164) [96] O .optt ⟨Ua,G⟩ (fun hc=>H36 (G97 (H6 hc hv164)) O O O) O ?_
      obtain⟨y165,hy165,h⟩:=Gg h
      refine JLo (.dptr [G0 y165]) [95,97] O .optt ⟨Ua,Ua,G⟩ (fun hc=>(match Ya (H6 hc hy165) with | ⟨_,hm_,hy_⟩=>He (f:=G0) (xs:=y84.Rows) (y:=y165) O O O Gj hy_ hm_)) O (JLo (G0 y165) [98] O .optt ⟨Ua,G⟩ (fun hc=>Gi Ge O O O) O (JLo (BL (decide (y157≤y165))) [93,99] O .optt ⟨Ua,Ua,G⟩ (fun hc=>Hb7 O O O) O (Gc (u:=BL ((decide (0 < (i157:Int)))&&(decide (y157≤y165)))) [(92,BL (decide (0 < (i157:Int)))),(100,_)] O O O .scf ⟨.all id,.part,G⟩ (fun hc=>Qu O O O O) ?_)))
      refine JLh (BL (((decide (y157 < 0))||(decide (30 < y157)))||((decide (0 < (i157:Int)))&&(decide (y157≤y165))))) (G44 O O O O) O (G7 (hK163 (JCc O h (fun h hb=>?_) (fun h hb=>?_))))
      ·
       refine Jr fun hK166=>(Rq (BL false) O (G7 (hK166 (Gt (⟨[BL false],[],G,O,⟨⟨_,O,.conv (.same O)⟩,G⟩,O,false,Eq.mpr (Option.some.inj h) hp,O⟩)))))
      ·
       refine Gp (hK162 (Za (l':=[(3,.mp 1050),(8,.dptr [G0 y84.Bay,E0 y84.Rows]),(10,G0 y157),(55,E3 s.Covers),(56,Ej s.Covers.length),(57,Ej i84),(76,E0 y84.Rows),(77,Ej y84.Rows.length),(78,Ej i157)]) (L':=[(1050,MP 109 H0.kv G0 s157)]) ⟨(by repeat' constructor),⟨⟨_,rfl,.map⟩,G⟩,rfl⟩ ?_))
       obtain⟨v167,hv167,h⟩:=Gg h
       obtain⟨v168,hv168,h⟩:=Jj h
       refine Q9 [7,9] [0,0,0,0,0,0,0,0,1,0] [0,0,0,0,0,1,1,0,1,0] [[(1050,MP 109 H0.kv G0 s157)],((1050,MI 109 H0.kv G0 s157 (H0.mk y84.Bay y157 2) 0)::[(1050,MP 109 H0.kv G0 s157)]),((1050,MP 109 H0.kv G0 (H8.put s157 (H0.mk y84.Bay y157 2) v168))::((1050,MI 109 H0.kv G0 s157 (H0.mk y84.Bay y157 2) 0)::[(1050,MP 109 H0.kv G0 s157)]))] Qo (by kernel_rfl) rfl rfl ?_
       refine Gq (u:=.mp 1050) O O ⟨Gx (G6 O O) O,G⟩ (Gq (u:=.dptr [G0 y84.Bay,E0 y84.Rows]) O O ⟨Gx (Gd G58 O O O) O,G⟩ (Gq (u:=G0 y84.Bay) O O ⟨Gx (Gi Ge O O O) O,G⟩ (Gq (u:=G0 y157) O O ⟨Gx (G6 O O) O,G⟩ (Gq (u:=.agg [G0 y84.Bay,G0 y157,G0 2]) O O ⟨Gx (H51 (cs:=[G0 y84.Bay,G0 y157,G0 2]) [.int .i64 0,.int .i64 0,.int .i64 0] Heb H9b O O) O,G⟩ (Gq (u:=G0 v167) O O ⟨Gx (((Option.some.inj hv167) ▸ J25 (av:=G0) (m:=s157) (a:=(H0.mk y84.Bay y157 2)) 0 (.int .i64 0) O O O O H7d G24 H13 O)) O,Gx (((Option.some.inj hv167) ▸ J24 (av:=G0) (m:=s157) (a:=(H0.mk y84.Bay y157 2)) 0 (.int .i64 0) O O O O H7d G24 H13 O)) O,G⟩ (Gq (u:=G0 v168) O O ⟨Gx (J0 hv168 O O O) O,Gx (J0 hv168 O O O) O,G⟩ (D_w (u:=.tup [.junk,G0 (Ye (H8.l s157) (H0.mk y84.Bay y157 2):Int)]) O O O O (Gx (Hb6 (m:=s157) (a:=(H0.mk y84.Bay y157 2)) 0 (.int .i64 0) O O O O H7d G24 H13 O) O) (Gq (u:=G0 (Ye (H8.l s157) (H0.mk y84.Bay y157 2):Int)) O O ⟨Gx (Hb O O O) O,G⟩ (D_w0 (u:=.junk) O O O O (Gx (H37 (m:=s157) (a:=(H0.mk y84.Bay y157 2)) (v:=v168) 0 O O O O O O) O) (Z7 ?_))))))))))
       refine hK160 (G4 (JLh (G0 ((i157+1:Nat):Int)) (J0 (Ho hk157 hm77) O O O) O (Rq (G0 ((i157+1:Nat):Int)) O (G7 (e157 _ _ (i157+1) (H8.put s157 (H0.mk y84.Bay y157 2) v168) (app1 hn157 h) (by omega) ⟨(by repeat' constructor),⟨⟨_,rfl,.map⟩,G⟩,rfl⟩)))))
     ·
      have h:=app1 hkx157 (Hv hi157 (Hi hb))
      refine Hy (hK87 (G4 (JLh (G0 ((i84+1:Nat):Int)) (J0 (Ho hk84 hm56) O O O) O (Rq (G0 ((i84+1:Nat):Int)) O (G7 (e84 _ _ (i84+1) s157 (app1 hn84 h) (by omega) ⟨(by repeat' constructor),⟨⟨_,rfl,.map⟩,G⟩,rfl⟩))))))
   ·
    have h:=app1 hkx84 (Hv hi84 (Hi hb))
    refine Hy (hK82 (Js fun hK169=>Jr fun hK170=>(Rq (.mp 1050) O (JLh (.it 1051) (J5a 1051 (m:=s84) O O O O G24) O (G7 (hK170 (Gv ?_)))))))
    obtain⟨b176,kx176,hb176,hkx176,h⟩:=eachM_in h
    refine J54 (H8.size s84) (fun i176 (s176:Unit)=>MInv b176 kx176 (H8.l s84) i176 s176) (fun i176 s176=>[(115,.it 1051)]) (fun i176 s176=>[(1050,MP 109 H0.kv G0 s84),(1051,.iter 1050 (H8.size s84) i176)]) () (MInv.start h hp) ⟨⟨.same O,G⟩,⟨⟨_,O,.map⟩,⟨_,O,.iter O⟩,G⟩,O⟩ ?_
    clear h hp
    intro i176 s176 hi176 K176 e176
    refine Jr fun hK177=>Gb1 O O O (A_nextM (m:=s84) O O O O) ?_
    intro u_ L_ hn_
    rcases hn_ with ⟨q176,x176,he176,hs176,rfl,rfl⟩ | ⟨ha176,rfl,rfl⟩
    ·
     obtain⟨o176,h,ho1_176,ho2_176⟩:=hi176.step he176 hs176
     replace h:=app3 hb176 h
     refine JLh (BL true) (Hb O O O) O (G7 (hK177 (Js fun hK178=>J55 O (Gp (hK178 (Gv (Jr fun hK179=>(JLh (.tup [.agg (H0.cs x176.1),G0 x176.2]) (J5d (kv:=H0.kv) (av:=G0) (m:=s84) (q:=q176) (seen:=i176) (e:=x176) O O O O he176) O (JLh (G0 x176.2) (Hb O O O) O (Rq (G0 x176.2) O (G7 (hK179 (Jr fun hK180=>(Rq (G0 x176.2) O (JLh (BL (decide (1 < x176.2))) (G47 O O O) O (G7 (hK180 (JCc O h (fun h hb=>?_) (fun h hb=>?_)))))))))))))))))))
     ·
      refine Jr fun hK181=>(Rq (BL false) O (G7 (hK181 (Gt ?_))))
      obtain⟨y_,hy_,hl_⟩:=lft_out h
      exact⟨[BL false],[],G,O,⟨⟨_,O,.conv (.same O)⟩,G⟩,O,false,Eq.mpr (Option.some.inj hl_) (ho1_176 y_ hy_),O⟩
     ·
      refine Gp (e176 _ _ (i176++[q176]) () (ho2_176 _ (Option.some.inj h).symm) (unseen_lt (List.getElem?_eq_some_iff.1 he176).1 hs176) ⟨⟨.same O,G⟩,⟨⟨_,O,.map⟩,⟨_,O,.iter O⟩,G⟩,O⟩)
    ·
     obtain⟨p_,h,hp⟩:=hi176.done ha176
     replace h:=app1 hkx176 h
     refine JLh (BL false) (Hb O O O) O (G7 (hK177 (Js fun hK182=>J56 O (Hy (hK169 (Jr fun hK183=>(Rq (BL true) O (G7 (hK183 (Gt (⟨[BL true],[],G,O,⟨⟨_,O,.conv (.same O)⟩,G⟩,O,true,Eq.mpr (Option.some.inj h) hp,O⟩)))))))))))
theorem J19 (S_:(Gu)→Option Bool) (hS_:∀ s r,S_ s=some r→∃ p:Prop,G3f s (fun r_=>r_=r)=some p∧p) (s:Gu) (r:Bool) (h:S_ s=some r):Pure Ek 22 [.agg (Gu.cs s)] (·=BL r):=by
 obtain⟨p,h1,h2⟩:=hS_ s r h
 exact(J18 s _ p h1 h2).monoP (fun av hh=>by obtain⟨r_,rfl,ha⟩:=hh; exact ha)

def Yr (size:Int):Option (List Int):=
 bif decide (size=40) then
 (some [0])
 else
 (bif decide (size=20) then
  (some [1,2])
  else
  (some []))
theorem Gec (size:Int) (r:(List Int)) (h:Yr size=some r):Pure Ek 52 [U8 size] (·=E9 r):=by
 unfold Yr at h
 refine H1 [.tmp 2] Tryz.func52 O O (Jr fun hK1=>(JLh (E9 ([]:List Int)) (Hj 1 O O) O (G7 (hK1 (Js fun hK2=>Jr fun hK3=>(Rq (U8 size) O (G7 (hK3 (Gv (Jr fun hK4=>(JLh (BL (decide (size=40))) (Qc O O O) O (Rq (BL (decide (size=40))) O (G7 (hK4 (JCc O h (fun h hb=>?_) (fun h hb=>?_))))))))))))))))
 ·
  refine Jr fun hK5=>(JLh (E9 [0]) (H9 (xs:=[U8 0]) O ⟨O,O,G⟩ G08 Hcc O O O O) O (Rq (E9 [0]) O (G7 (hK5 (Gt (fin1 (fun r:(List Int)=>(E9 r:AV)) h))))))
 ·
  refine Jr fun hK6=>(JLh (BL (decide (size=20))) (Qc O O O) O (Rq (BL (decide (size=20))) O (G7 (hK6 (JCc O h (fun h hb=>?_) (fun h hb=>?_))))))
  ·
   refine Jr fun hK7=>(JLh (E9 [1,2]) (H9 (xs:=[U8 1,U8 2]) O ⟨O,O,O,O,G⟩ G08 Hcc O O O O) O (Rq (E9 [1,2]) O (G7 (hK7 (Gt (fin1 (fun r:(List Int)=>(E9 r:AV)) h))))))
  ·
   refine Gp (hK2 (Jr fun hK8=>(JLh (E9 ([]:List Int)) (Hj 1 O O) O (G7 (hK8 (Gt (fin1 (fun r:(List Int)=>(E9 r:AV)) h)))))))

def G3e (p1:Gu) (p2:Int) (ys_:List Slot):Option Unit:=
 each (fun y2 i2 (s2:Nat) nx2=>
  need (decide ((max y2.Tiers 0)≤9223372036854775807)) <|
  upto (fun i8 (s8:Nat) nx8=>
   bnd (Yr p2) fun r14=>
   each (fun y29 i29 (s29:Nat) nx29=>
    need (decide (ys_[s29]? = some (Slot.mk (i2:Int) (i8:Int) y29))) <|
    nx29 (s29+1))
   (fun(s29:Nat)=>
    nx8 s29) r14 0 s8)
  (fun(s8:Nat)=>
   nx2 s8) (max y2.Tiers 0).toNat 0 s2)
 (fun(s2:Nat)=>
  need (decide (s2=ys_.length)) (some ())) p1.Columns 0 0
theorem H93 (p1:Gu) (p2:Int) (ys_:List Slot) (q_:Unit) (h:G3e p1 p2 ys_=some q_):Iter Ek 64 [.dptr (Gu.cs p1),.dptr [U8 p2]] (ys_.map (fun y:Slot=>[.agg [G0 y.G3,G0 y.Tier,U8 y.Half]])):=by
 unfold G3e at h
 refine Iter_of Tryz.func64 O O ?_
 intro E hE hys
 refine G18 (fun K1 hK1=>Y4 (Q0 (u:=Ec p1) hE (Gd Hq O O O) ?_ O O O O))
 refine Q0 (u:=E7 p1.Columns) hE (Gi J6 O O O) ?_ O O O O
 refine J52 hE (f:=G3.av) (xs:=p1.Columns) Hx O O (fun hm11=>?_) O O O
 refine Q0 (u:=G0 0) hE (G6 O O) ?_ O O O O
 refine G12 ?_
 refine hK1 _ _ _ (Gc9 ?_)
 obtain⟨b2,kx2,hb2,hkx2,h⟩:=Ja h
 refine J1b (fun i2 (s2:Nat)=>each b2 kx2 (List.drop i2 p1.Columns) i2 s2=some q_) (fun i2 s2=>[(0,.sc (.func (.yield E.lp) #[] #[])),(2,.dptr [U8 p2]),(10,E7 p1.Columns),(11,Ej p1.Columns.length),(12,Ej i2)]) (fun i2 s2=>[]) (fun i2 s2=>s2) (fun i2=>p1.Columns.length - i2) 0 0 h ⟨(by repeat' constructor),G,rfl⟩ rfl ?_
 clear h
 intro i2 s2 hi2 K2 e2
 refine G18 (fun K3 hK3=>Y4 (Q0 (u:=BL (decide ((i2:Int) < (p1.Columns.length:Int)))) hE (Jc O O O) ?_ O O O O))
 refine G12 ?_
 refine hK3 _ _ _ (G18 (fun K4 hK4=>H77 O (fun hb=>?_) (fun hb=>?_)))
 ·
  have hk2:=Jz hb
  obtain⟨y2,nx2,hy2,hn2,h⟩:=Hu hi2 hk2
  replace h:=Zr hb2 h
  refine Hc5 (hK4 _ _ _ (G18 (fun K5 hK5=>Gc9 (G18 (fun K6 hK6=>Y4 (Q0 (u:=Ej i2) hE (G6 O O) ?_ O O O O))))))
  refine Q0 (u:=Ee y2) hE (He (f:=G3.av) (xs:=p1.Columns) (y:=y2) O O O Hx hy2 O) ?_ O O O O
  refine Q0 (u:=.agg (G3.cs y2)) hE (Gk G29 O O O) ?_ O O O O
  refine Q0 (u:=.ptr 1096 0) hE (Jb 1096 12 Zu O O) ?_ O O O O
  refine Q0 (u:=Ej i2) hE (G8 O O) ?_ O O O O
  refine JIL_go0 (u:=.junk) hE (Ht (u:=.agg (G3.cs y2)) (ds:=(G3.cs y2)) Gcf O O O O O O O O) ?_ O O O
  refine G12 ?_
  refine hK6 _ _ _ (G18 (fun K7 hK7=>Y4 (Q0 (u:=.ptr 1096 3) hE (Q7 G5a O O) ?_ O O O O)))
  refine Q0 (u:=G0 y2.Tiers) hE (Rc Ge O O O O) ?_ O O O O
  refine Q0 (u:=G0 (max y2.Tiers 0)) hE (A_max O O O) ?_ O O O O
  refine Q0 (u:=G0 0) hE (G6 O O) ?_ O O O O
  refine G12 ?_
  refine hK7 _ _ _ (Gc9 ?_)
  obtain⟨hx8,h⟩:=Jm h
  obtain⟨b8,kx8,hb8,hkx8,h⟩:=upto_in h
  refine J1b (fun i8 (s8:Nat)=>upto b8 kx8 ((max y2.Tiers 0).toNat - i8) i8 s8=some q_) (fun i8 s8=>[(0,.sc (.func (.yield E.lp) #[] #[])),(2,.dptr [U8 p2]),(4,Ej i2),(10,E7 p1.Columns),(11,Ej p1.Columns.length),(12,Ej i2),(19,G0 (max y2.Tiers 0)),(20,Ej i8)]) (fun i8 s8=>[(1096,.box 57 (G3.cs y2))]) (fun i8 s8=>s8) (fun i8=>(max y2.Tiers 0).toNat - i8) 0 s2 h ⟨(by repeat' constructor),⟨⟨_,rfl,.boxL rfl (by repeat' constructor)⟩,G⟩,rfl⟩ rfl ?_
  clear h
  intro i8 s8 hi8 K8 e8
  refine G18 (fun K9 hK9=>Y4 (Q0 (u:=BL (decide ((i8:Int) < (max y2.Tiers 0)))) hE (Jc O O O) ?_ O O O O))
  refine G12 ?_
  refine hK9 _ _ _ (G18 (fun K10 hK10=>H77 O (fun hb=>?_) (fun hb=>?_)))
  ·
   have hk8:=Hfe hb
   obtain⟨nx8,hn8,h⟩:=Hca hi8 hk8
   replace h:=app3 hb8 h
   refine Hc5 (hK10 _ _ _ (G18 (fun K11 hK11=>Gc9 (G18 (fun K12 hK12=>Y4 (Q0 (u:=Ej i8) hE (G6 O O) ?_ O O O O))))))
   refine Q0 (u:=Ej i8) hE (G8 O O) ?_ O O O O
   refine G12 ?_
   refine hK12 _ _ _ (G18 (fun K13 hK13=>Y4 (Q0 (u:=U8 p2) hE (Gi J5 O O O) ?_ O O O O)))
   obtain⟨r14,hr14,h⟩:=Gg h
   refine Q0 (u:=E9 r14) hE (Gw O (Gec p2 r14 hr14) Hde ⟨O,O,G⟩) ?_ O O O O
   refine J52 hE (f:=U8) (xs:=r14) G08 O O (fun hm25=>?_) O O O
   refine Q0 (u:=G0 0) hE (G6 O O) ?_ O O O O
   refine G12 ?_
   refine hK13 _ _ _ (Gc9 ?_)
   obtain⟨b29,kx29,hb29,hkx29,h⟩:=Ja h
   refine J1b (fun i29 (s29:Nat)=>each b29 kx29 (List.drop i29 r14) i29 s29=some q_) (fun i29 s29=>[(0,.sc (.func (.yield E.lp) #[] #[])),(2,.dptr [U8 p2]),(4,Ej i2),(6,Ej i8),(10,E7 p1.Columns),(11,Ej p1.Columns.length),(12,Ej i2),(19,G0 (max y2.Tiers 0)),(20,Ej i8),(24,E9 r14),(25,Ej r14.length),(26,Ej i29)]) (fun i29 s29=>[(1096,.box 57 (G3.cs y2))]) (fun i29 s29=>s29) (fun i29=>r14.length - i29) 0 s8 h ⟨(by repeat' constructor),⟨⟨_,rfl,.boxL rfl (by repeat' constructor)⟩,G⟩,rfl⟩ rfl ?_
   clear h
   intro i29 s29 hi29 K29 e29
   refine G18 (fun K30 hK30=>Y4 (Q0 (u:=BL (decide ((i29:Int) < (r14.length:Int)))) hE (Jc O O O) ?_ O O O O))
   refine G12 ?_
   refine hK30 _ _ _ (G18 (fun K31 hK31=>H77 O (fun hb=>?_) (fun hb=>?_)))
   ·
    have hk29:=Jz hb
    obtain⟨y29,nx29,hy29,hn29,h⟩:=Hu hi29 hk29
    replace h:=Zr hb29 h
    refine Hc5 (hK31 _ _ _ (G18 (fun K32 hK32=>Gc9 (G18 (fun K33 hK33=>Y4 (Q0 (u:=.dptr [U8 y29]) hE (He (f:=U8) (xs:=r14) (y:=y29) O O O G08 hy29 O) ?_ O O O O))))))
    refine Q0 (u:=U8 y29) hE (Gi J5 O O O) ?_ O O O O
    refine Q0 (u:=U8 y29) hE (G8 O O) ?_ O O O O
    refine G12 ?_
    refine hK33 _ _ _ (G18 (fun K34 hK34=>Y4 (Q0 (u:=.sc (.func (.yield E.lp) #[] #[])) hE (G6 O O) ?_ O O O O)))
    refine Q0 (u:=Ej i2) hE (G6 O O) ?_ O O O O
    refine Q0 (u:=Ej i8) hE (G6 O O) ?_ O O O O
    refine Q0 (u:=U8 y29) hE (G6 O O) ?_ O O O O
    refine Q0 (u:=.agg [Ej i2,Ej i8,U8 y29]) hE (Hp (cs:=[Ej i2,Ej i8,U8 y29]) [(0,1),(1,1),(2,1)] [G0 0,G0 0,U8 0] [.int .i64 0,.int .i64 0,.int .u8 0] Gd4 H39 ⟨.inl O,.inl O,.inl O,G⟩ O O) ?_ O O O O
    obtain⟨ha35,h⟩:=Jm h
    refine JIL_yield (us:=[.agg [Ej i2,Ej i8,U8 y29]]) hE O O ⟨O,O,G⟩ (yld_at (f:=(fun y:Slot=>[.agg [G0 y.G3,G0 y.Tier,U8 y.Half]])) (x:=(Slot.mk (i2:Int) (i8:Int) y29)) hys ha35) ?_ O O O
    refine Q0 (u:=BL false) hE (G06 (b:=true) O O) ?_ O O O O
    refine G12 ?_
    refine hK34 _ _ _ (JI_condF O (Hc5 (hK32 _ _ _ (Y4 (Q0 (u:=G0 ((i29+1:Nat):Int)) hE (J0 (Ho hk29 hm25) O O O) ?_ O O O O)))))
    refine Q0 (u:=G0 ((i29+1:Nat):Int)) hE (G6 O O) ?_ O O O O
    refine G12 ?_
    exact e29 _ _ (i29+1) (s29+1) _ (app1 hn29 h) (by omega) ⟨(by repeat' constructor),⟨⟨_,rfl,.boxL rfl (by repeat' constructor)⟩,G⟩,rfl⟩ rfl
   ·
    have h:=app1 hkx29 (Hv hi29 (Hi hb))
    refine JI_exit (hK11 _ _ _ (Y4 (Q0 (u:=G0 ((i8+1:Nat):Int)) hE (J0 (Ho hk8 (H7c hx8)) O O O) ?_ O O O O)))
    refine Q0 (u:=G0 ((i8+1:Nat):Int)) hE (G6 O O) ?_ O O O O
    refine G12 ?_
    exact e8 _ _ (i8+1) s29 _ (app1 hn8 h) (by omega) ⟨(by repeat' constructor),⟨⟨_,rfl,.boxL rfl (by repeat' constructor)⟩,G⟩,rfl⟩ rfl
  ·
   have h:=app1 hkx8 (Hcb hi8 (Gde hb))
   refine JI_exit (hK5 _ _ _ (Y4 (Q0 (u:=G0 ((i2+1:Nat):Int)) hE (J0 (Ho hk2 hm11) O O O) ?_ O O O O)))
   refine Q0 (u:=G0 ((i2+1:Nat):Int)) hE (G6 O O) ?_ O O O O
   refine G12 ?_
   exact e2 _ _ (i2+1) s8 _ (app1 hn2 h) (by omega) ⟨(by repeat' constructor),G,rfl⟩ rfl
 ·
  have h:=app1 hkx2 (Hv hi2 (Hi hb))
  refine JI_exit (yld_end (Jm h).1)
theorem H94 (S_:(Gu)→(Int)→Option (List Slot)) (hS_:∀ p1 p2 r,S_ p1 p2=some r→G3e p1 p2 r=some ()) (p1:Gu) (p2:Int) (r:List Slot) (h:S_ p1 p2=some r):Iter Ek 64 [.dptr (Gu.cs p1),.dptr [U8 p2]] (r.map (fun y:Slot=>[.agg [G0 y.G3,G0 y.Tier,U8 y.Half]])):=H93 p1 p2 r () (hS_ p1 p2 r h)
end
end Go.Proofs.YtapmanciffiibaaGreat
