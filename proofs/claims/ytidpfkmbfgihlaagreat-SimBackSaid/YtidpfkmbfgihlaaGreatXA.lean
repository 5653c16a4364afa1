/-
 Models of functions of the program,and that they return what the models say.
-/
import Derived.Test.YtidpfkmbfgihlaaGreatSortLay
import Derived.Test.YtidpfkmbfgihlaaGreatSeq
set_option maxRecDepth 100000
set_option maxHeartbeats 1000000
set_option linter.unusedVariables false
set_option linter.unusedSimpArgs false
namespace Go.Proofs.YtidpfkmbfgihlaaGreat
open Go.RowKit
noncomputable section
abbrev Eo:=Tryz.prog
structure Hm where
 n:Int
 low:Int
 high:Int
 deriving DecidableEq,Inhabited
def Hm.cs (x:Hm):List AV:=[I64 x.n,I64 x.low,I64 x.high]
def Hm.av (x:Hm):AV:=.agg x.cs
structure G2 where
 Bay:Int
 Row:Int
 Deck:Bool
 Tiers:Int
 Height:Int
 Kilos20:Int
 Kilos40:Int
 Lash:Int
 Plugs:List Int
 X:Int
 Y:Int
 Z:Int
 deriving DecidableEq,Inhabited
def G2.cs (x:G2):List AV:=[I64 x.Bay,I64 x.Row,BL x.Deck,I64 x.Tiers,I64 x.Height,I64 x.Kilos20,I64 x.Kilos40,I64 x.Lash,E2 x.Plugs,I64 x.X,I64 x.Y,I64 x.Z]
def G2.av (x:G2):AV:=.agg x.cs
abbrev Ej (x:G2):AV:=.dptr (G2.cs x)
abbrev E1:=LS 12 G2.av
structure G8 where
 Bay:Int
 Rows:List Int
 deriving DecidableEq,Inhabited
def G8.cs (x:G8):List AV:=[I64 x.Bay,E2 x.Rows]
def G8.av (x:G8):AV:=.agg x.cs
abbrev E7:=LS 2 G8.av
structure Light where
 Kilos:Int
 X:Int
 Y:Int
 Z:Int
 deriving DecidableEq,Inhabited
def Light.cs (x:Light):List AV:=[I64 x.Kilos,I64 x.X,I64 x.Y,I64 x.Z]
def Light.av (x:Light):AV:=.agg x.cs
structure Row where
 Draught:Int
 Kilos:Int
 Buoy:Int
 Metacentre:Int
 Y9d:Int
 deriving DecidableEq,Inhabited
def Row.cs (x:Row):List AV:=[I64 x.Draught,I64 x.Kilos,I64 x.Buoy,I64 x.Metacentre,I64 x.Y9d]
def Row.av (x:Row):AV:=.agg x.cs
abbrev E3:=LS 5 Row.av
structure Frame where
 X:Int
 Light:Int
 Share:Int
 Shear:Int
 Bend:Int
 deriving DecidableEq,Inhabited
def Frame.cs (x:Frame):List AV:=[I64 x.X,I64 x.Light,I64 x.Share,I64 x.Shear,I64 x.Bend]
def Frame.av (x:Frame):AV:=.agg x.cs
abbrev E4:=LS 5 Frame.av
structure Gp where
 Kilos:Int
 X:Int
 Y:Int
 Z:Int
 Surface:Int
 Steps:List Int
 deriving DecidableEq,Inhabited
def Gp.cs (x:Gp):List AV:=[I64 x.Kilos,I64 x.X,I64 x.Y,I64 x.Z,I64 x.Surface,E2 x.Steps]
def Gp.av (x:Gp):AV:=.agg x.cs
abbrev E5:=LS 6 Gp.av
structure G4 where
 Tolerance:Int
 Trim:Int
 List_:Int
 Stability:Int
 deriving DecidableEq,Inhabited
def G4.cs (x:G4):List AV:=[I64 x.Tolerance,I64 x.Trim,I64 x.List_,I64 x.Stability]
def G4.av (x:G4):AV:=.agg x.cs
structure Gk where
 Columns:List G2
 Covers:List G8
 Light:Light
 Rows:List Row
 Frames:List Frame
 Tanks:List Gp
 G4:G4
 deriving DecidableEq,Inhabited
def Gk.cs (x:Gk):List AV:=[E1 x.Columns,E7 x.Covers,I64 x.Light.Kilos,I64 x.Light.X,I64 x.Light.Y,I64 x.Light.Z,E3 x.Rows,E4 x.Frames,E5 x.Tanks,I64 x.G4.Tolerance,I64 x.G4.Trim,I64 x.G4.List_,I64 x.G4.Stability]
def Gk.av (x:Gk):AV:=.agg x.cs
abbrev Eg (x:Gk):AV:=.dptr (Gk.cs x)
structure Hg where
 e0:Int
 e1:Int
 e2:Int
 deriving DecidableEq,Inhabited
def Hg.cs (x:Hg):List AV:=[I64 x.e0,I64 x.e1,I64 x.e2]
def Hg.av (x:Hg):AV:=.agg x.cs
def Hg.ks (x:Hg):List Value:=[.int .i64 x.e0,.int .i64 x.e1,.int .i64 x.e2]
def Hg.kv (x:Hg):Value:=.agg x.ks.toArray
structure Slot where
 G2:Int
 Tier:Int
 Half:Int
 deriving DecidableEq,Inhabited
def Slot.cs (x:Slot):List AV:=[I64 x.G2,I64 x.Tier,U8 x.Half]
def Slot.av (x:Slot):AV:=.agg x.cs
abbrev Ek (x:Slot):AV:=.dptr (Slot.cs x)
abbrev E9:=LS 3 Slot.av
namespace XAF
theorem Z04 (a b:Hg):J79 Eo 4 178 [.int .i64 a.e0,.int .i64 a.e1,.int .i64 a.e2] [.int .i64 b.e0,.int .i64 b.e1,.int .i64 b.e2]=some (decide (a=b)):=by
 refine(show _=some ((a.e0==b.e0)&&((a.e1==b.e1)&&((a.e2==b.e2)&&true))) by kernel_rfl).trans (congrArg some ?_)
 rw [Bool.eq_iff_iff]
 simp only [Bool.and_eq_true,beq_iff_eq,decide_eq_true_eq,Bool.and_true]
 constructor
 ·intro h; obtain⟨_,_,_⟩:=a; obtain⟨_,_,_⟩:=b; simp_all
 ·intro h; subst h; simp
theorem H66:Gf2 Eo 107 2=true:=by kernel_rfl
theorem Rd6:Gf2 Eo 205 3=true:=by kernel_rfl
theorem G75:Gf2 Eo 58 12=true:=by kernel_rfl
theorem Q69:Ydb Eo 178 3 1=true:=by kernel_rfl
theorem Jfc:H7 Eo 114=true:=by kernel_rfl
theorem R55:H7 Eo 125=true:=by kernel_rfl
theorem Jf5:H7 Eo 154=true:=by kernel_rfl
theorem Gec:Jj Eo 107 0 0=true:=by kernel_rfl
theorem G02:Jj Eo 107 1 1=true:=by kernel_rfl
theorem J10:Jj Eo 205 0 0=true:=by kernel_rfl
theorem Q4b:Jj Eo 205 1 1=true:=by kernel_rfl
theorem Q4a:Jj Eo 205 2 2=true:=by kernel_rfl
theorem Hv:Jj Eo 36 0 0=true:=by kernel_rfl
theorem Jo:Jj Eo 36 1 1=true:=by kernel_rfl
theorem G73:Jj Eo 58 0 0=true:=by kernel_rfl
theorem G72:Jj Eo 58 1 1=true:=by kernel_rfl
theorem J0f:Jj Eo 58 10 10=true:=by kernel_rfl
theorem H61:Jj Eo 58 11 11=true:=by kernel_rfl
theorem Ys:Jj Eo 58 2 2=true:=by kernel_rfl
theorem H18:Jj Eo 58 3 3=true:=by kernel_rfl
theorem Ha3:Jj Eo 58 4 4=true:=by kernel_rfl
theorem Qd0:Jj Eo 58 5 5=true:=by kernel_rfl
theorem Qcf:Jj Eo 58 6 6=true:=by kernel_rfl
theorem Qce:Jj Eo 58 7 7=true:=by kernel_rfl
theorem J56:Jj Eo 58 8 8=true:=by kernel_rfl
theorem J55:Jj Eo 58 9 9=true:=by kernel_rfl
theorem Gce:Zj Eo 177 178 3=true:=by kernel_rfl
theorem J0:Eo.follows .mixedOrders=true:=by kernel_rfl
theorem Yr:placesOf Eo 205=some [(0,1),(1,1),(2,1)]:=by kernel_rfl
theorem Ga6:placesOf Eo 43=some [(0,1),(1,1),(2,1)]:=by kernel_rfl
theorem J8:Y4 Eo 26=true:=by kernel_rfl
theorem Qa:Y4 Eo 27=true:=by kernel_rfl
theorem Gc:Y4 Eo 3=true:=by kernel_rfl
theorem Q1:Y4 Eo 4=true:=by kernel_rfl
theorem Hn:Y4 Eo 5=true:=by kernel_rfl
theorem Yi:Y4 Eo 51=true:=by kernel_rfl
theorem Jf4:Yt Eo 107 2=true:=by kernel_rfl
theorem R47:Yt Eo 205 3=true:=by kernel_rfl
theorem Hc9:Yt Eo 58 12=true:=by kernel_rfl
theorem Ga5:sliceB Eo 168 5 1=true:=by kernel_rfl
theorem H4e:sliceB Eo 203 205 3=true:=by kernel_rfl
theorem Ht:sliceB Eo 26 58 12=true:=by kernel_rfl
theorem Ji:sliceB Eo 27 107 2=true:=by kernel_rfl
theorem Gx:sliceB Eo 51 3 1=true:=by kernel_rfl
theorem Jf0:(Eo.info? 178).bind (fun i=>i.zero.map Value.cells)=some (List.toArray [E0,E0,E0]):=by kernel_rfl
theorem G00:(Eo.info? 205).bind (fun i=>i.zero.map Value.cells)=some (List.toArray [E0,E0,E0]):=by kernel_rfl
theorem Gcd:(Eo.info? 43).bind (fun i=>i.zero.map Value.cells)=some (List.toArray [E0,E0,.int .u8 0]):=by kernel_rfl
theorem Ge9:Y1 Eo 107 2=true:=by kernel_rfl
theorem Hc8:Y1 Eo 205 3=true:=by kernel_rfl
theorem Q45:Y1 Eo 5 1=true:=by kernel_rfl
theorem G2e:Y1 Eo 58 12=true:=by kernel_rfl
theorem H4c:(Eo.info? 3).bind (·.zero)=some E0:=by kernel_rfl
theorem Jc7:Gd3 Eo 178 Hg.kv:=Gd3.of_eq Hg.ks (by kernel_rfl) (fun a b h=>by simp only [Hg.ks,List.cons.injEq,Value.int.injEq,Value.bool.injEq,Value.string.injEq,true_and,and_true] at h; obtain⟨_,_,_⟩:=a; obtain⟨_,_,_⟩:=b; simp_all) 4 (by decide) (fun a b=>Z04 a b) (fun a=>by kernel_rfl) (fun a=>by simp [Instr.sameBits,Hg.ks])
end XAF
open XAF

def G55 (l:List Hm):Option Bool:=
 each (fun y18 i18 (s18:Unit) nx18=>
  bif ((decide (y18.n < y18.low))||(decide (y18.high < y18.n))) then
  (some false)
  else
  (nx18 ()))
 (fun(s18:Unit)=>
  some true) l 0 ()
theorem Hc1 (l:List Hm) (r:Bool) (h:G55 l=some r):Pure Eo 154 [LS 3 Hm.av l] (·=BL r):=by
 unfold G55 at h
 refine Gy [.tmp 2] Tryz.func154 O O (Jr fun hK1=>(JLm (BL false) O (G5 (hK1 (Js fun hK2=>Jr fun hK3=>(JLm (LS 3 Hm.av l) O (JLl H4e O O O fun hm6=>(JLm (I64 0) O (G5 (hK3 (Gw ?_)))))))))))
 obtain⟨b18,kx18,hb18,hkx18,h⟩:=Jx h
 refine Jb (fun i18 (s18:Unit)=>each b18 kx18 (List.drop i18 l) i18 s18=some r) (fun i18 s18=>[(5,LS 3 Hm.av l),(6,En l.length),(7,En i18)]) (fun i18 s18=>[]) (fun i18=>l.length - i18) 0 () h ⟨(.sm O O),G,O⟩ ?_
 clear h
 intro i18 s18 hi18 K18 e18
 refine Jr fun hK19=>(JLh (BL (decide ((i18:Int) < (l.length:Int)))) (Qg O O O) O (G5 (hK19 (Js fun hK20=>Gn O (fun hb=>?_) (fun hb=>?_)))))
 ·
  have hk18:=Qr hb
  obtain⟨y18,nx18,hy18,hn18,h⟩:=J9 hi18 hk18
  replace h:=G17 hb18 h
  refine Gr (hK20 (Js fun hK21=>Gw (Jr fun hK22=>(JLh (.dptr [I64 y18.n,I64 y18.low,I64 y18.high]) (Hf (f:=Hm.av) (xs:=l) (y:=y18) O O O H4e hy18 O) O (JLh (.agg [I64 y18.n,I64 y18.low,I64 y18.high]) (Gi Rd6 O O O) O (JLh (.ptr 1192 0) (Hp 1192 3 Hc8 O O) O (Ho (u:=.junk) (Hc (u:=.agg [I64 y18.n,I64 y18.low,I64 y18.high]) (ds:=[I64 y18.n,I64 y18.low,I64 y18.high]) R47 O O O O O O O O) (G5 (hK22 (Gm [(4,.dptr [I64 y18.n,I64 y18.low,I64 y18.high]),(5,LS 3 Hm.av l),(6,En l.length),(7,En i18)] [] 1192 rfl rfl rfl G rfl (by repeat' (first | exact .ptr | constructor)) ?_))))))))))
  refine Jr fun hK23=>(JLh (.dptr [I64 y18.n,I64 y18.low,I64 y18.high]) (G9 J10 O O O) O (JLh (I64 y18.n) (Gg Gc O O O) O (JLh (.dptr [I64 y18.low,I64 y18.high]) (G9 Q4b O O O) O (JLh (I64 y18.low) (Gg Gc O O O) O (JLh (BL (decide (y18.n < y18.low))) (Qg O O O) O (JLm (BL (decide (y18.n < y18.low))) O (JLo (.dptr [I64 y18.n,I64 y18.low,I64 y18.high]) [] O .scf G (fun hc=>G9 J10 O O O) O (JLo (I64 y18.n) [17] O .scf ⟨Ua,G⟩ (fun hc=>Gg Gc O O O) O (JLo (.dptr [I64 y18.high]) [] O .scf G (fun hc=>G9 Q4a O O O) O (JLo (I64 y18.high) [19] O .scf ⟨Ua,G⟩ (fun hc=>Gg Gc O O O) O (JLo (BL (decide (y18.high < y18.n))) [18,20] O .scf ⟨Ua,Ua,G⟩ (fun hc=>Gb9 O O O) O (JLh (BL ((decide (y18.n < y18.low))||(decide (y18.high < y18.n)))) (G28 O O O O) O (G5 (hK23 ?_))))))))))))))
  refine JCc O h ?_ ?_<;>intro h hb
  ·
   refine Jr fun hK24=>(JLm (BL false) O (G5 (hK24 (Gq (fin1 BL h)))))
  ·
   refine Gr (hK21 (G1 (JLh (I64 ((i18+1:Nat):Int)) (Jf (J6 hk18 hm6) O O O) O (JLm (I64 ((i18+1:Nat):Int)) O (G5 (e18 _ _ (i18+1) () (app1 hn18 h) (by omega) ⟨(.sm O O),G,rfl⟩))))))
 ·
  have h:=app1 hkx18 (Ja hi18 (Hs hb))
  refine Je (hK2 (Jr fun hK25=>(JLm (BL true) O (G5 (hK25 (Gq (fin1 BL h)))))))

def Gb1 (c:G2):Option Bool:=
 each (fun y27 i27 (s27:Unit) nx27=>
  wrp (c.Tiers - 1) fun v33=>
  bnd (G55 [(Hm.mk y27 0 v33)]) fun r34=>
  bnd (bif ((!(!r34))&&(decide (0 < (i27:Int)))) then some (IntKind.i64.wrap ((i27:Int) - 1)) else some 0) fun v35=>
  bnd (bif ((!(!r34))&&(decide (0 < (i27:Int)))) then Yy c.Plugs v35 some else some default) fun y36=>
  bif ((!r34)||((decide (0 < (i27:Int)))&&(decide (y27≤y36)))) then
  (some false)
  else
  (nx27 ()))
 (fun(s27:Unit)=>
  bnd (G55 [(Hm.mk c.Bay 0 39),(Hm.mk c.Row 0 30),(Hm.mk c.Tiers 1 10),(Hm.mk c.Height 0 40000),(Hm.mk c.Kilos20 0 500000000),(Hm.mk c.Kilos40 0 500000000),(Hm.mk c.Lash 0 1000000000000),(Hm.mk c.X (-500000) 500000),(Hm.mk c.Y (-500000) 500000),(Hm.mk c.Z (-500000) 500000)]) fun r39=>
  some r39) c.Plugs 0 ()
abbrev Ep (c:G2):List AV:=[I64 c.Tiers,I64 c.Height,I64 c.Kilos20,I64 c.Kilos40,I64 c.Lash,E2 c.Plugs,I64 c.X,I64 c.Y,I64 c.Z]
theorem Qb1 (c:G2) (r:Bool) (h:Gb1 c=some r):Pure Eo 125 [.agg (G2.cs c)] (·=BL r):=by
 unfold Gb1 at h
 refine Gy [.tmp 2] Tryz.func125 O O (Jr fun hK1=>(JLh (.ptr 1174 0) (Jk (cs:=(G2.cs c)) 1174 O O O O O) O (JLm (BL false) O (G5 (hK1 (Gm [(1,Ej c)] [] 1174 rfl rfl rfl G rfl (by exact⟨.ptr,G⟩) (Jr fun hK2=>(JLm (.fn 154 []) O (G5 (hK2 (Js fun hK3=>Jr fun hK4=>(JLh (.dptr [E2 c.Plugs,I64 c.X,I64 c.Y,I64 c.Z]) (G9 J56 O O O) O (JLh (E2 c.Plugs) (Gg Yi O O O) O (JLl Gx O O O fun hm8=>(JLm (I64 0) O (G5 (hK4 (Gw ?_))))))))))))))))))
 obtain⟨b27,kx27,hb27,hkx27,h⟩:=Jx h
 refine Jb (fun i27 (s27:Unit)=>each b27 kx27 (List.drop i27 c.Plugs) i27 s27=some r) (fun i27 s27=>[(1,Ej c),(3,.fn 154 []),(7,E2 c.Plugs),(8,En c.Plugs.length),(9,En i27)]) (fun i27 s27=>[]) (fun i27=>c.Plugs.length - i27) 0 () h ⟨(.sm O O),G,rfl⟩ ?_
 clear h
 intro i27 s27 hi27 K27 e27
 refine Jr fun hK28=>(JLh (BL (decide ((i27:Int) < (c.Plugs.length:Int)))) (Qg O O O) O (G5 (hK28 (Js fun hK29=>Gn O (fun hb=>?_) (fun hb=>?_)))))
 ·
  have hk27:=Qr hb
  obtain⟨y27,nx27,hy27,hn27,h⟩:=J9 hi27 hk27
  replace h:=G17 hb27 h
  refine Gr (hK29 (Js fun hK30=>Gw (Jr fun hK31=>(JLm (En i27) O (JLh (.dptr [I64 y27]) (Hf (f:=I64) (xs:=c.Plugs) (y:=y27) O O O Gx hy27 O) O (JLh (I64 y27) (Gg Gc O O O) O (JLm (En i27) O (JLm (I64 y27) O (G5 (hK31 (Jr fun hK32=>(JLm (.fn 154 []) O (JLm (I64 y27) O (JLh (.dptr (Ep c)) (G9 H18 O O O) O (JLh (I64 c.Tiers) (Gg Gc O O O) O ?_)))))))))))))))
  obtain⟨v33,hv33,h⟩:=Ybc h
  refine JLh (I64 v33) (H49 hv33 O O O) O (JLh (.agg [I64 y27,I64 0,I64 v33]) (Hb (cs:=[I64 y27,I64 0,I64 v33]) [(0,1),(1,1),(2,1)] [I64 0,I64 0,I64 0] [E0,E0,E0] Yr G00 ⟨.inl O,.inl O,.inl O,G⟩ O O) O (JLh (LS 3 Hm.av [(Hm.mk y27 0 v33)]) (H8 (xs:=[.agg [I64 y27,I64 0,I64 v33]]) O ⟨O,O,G⟩ H4e Hc8 O O O O) O ?_))
  obtain⟨r34,hr34,h⟩:=Ga h
  refine JLh (BL r34) (G40 (args:=[LS 3 Hm.av [(Hm.mk y27 0 v33)]]) (caps:=[]) O O (Hc1 [(Hm.mk y27 0 v33)] r34 hr34) Jf5 ⟨O,O,G⟩ O) O (JLh (BL (!r34)) (Qx (b:=r34) O O) O (JLm (BL (!r34)) O (JLo (En i27) [] O .scf G (fun hc=>G6 O O) O (JLo (BL (decide (0 < (i27:Int)))) [24] O .scf ⟨Ua,G⟩ (fun hc=>Gb9 O O O) O (JLo (BL (decide (0 < (i27:Int)))) [25] O .scf ⟨Ua,G⟩ (fun hc=>G6 O O) O (JLo (I64 y27) [] O .optt G (fun hc=>G6 O O) O (JLo (.dptr [E2 c.Plugs,I64 c.X,I64 c.Y,I64 c.Z]) [] O .optt G (fun hc=>G9 J56 O O O) O (JLo (E2 c.Plugs) [28] O .optt ⟨Ua,G⟩ (fun hc=>Gg Yi O O O) O (JLo (En i27) [] O .optt G (fun hc=>G6 O O) O ?_)))))))))
  obtain⟨v35,hv35,h⟩:=Ga h
  refine JLo (I64 v35) [30] O .optt ⟨Ua,G⟩ (fun hc=>H49 (Option.some.inj (H1 hc hv35)) O O O) O ?_
  obtain⟨y36,hy36,h⟩:=Ga h
  refine JLo (.dptr [I64 y36]) [29,31] O .optt ⟨Ua,Ua,G⟩ (fun hc=>(match Zi (H1 hc hy36) with | ⟨_,hm_,hy_⟩=>Hf (f:=I64) (xs:=c.Plugs) (y:=y36) O O O Gx hy_ hm_)) O (JLo (I64 y36) [32] O .optt ⟨Ua,G⟩ (fun hc=>Gg Gc O O O) O (JLo (BL (decide (y27≤y36))) [27,33] O .optt ⟨Ua,Ua,G⟩ (fun hc=>J06 O O O) O (Gf (u:=BL ((decide (0 < (i27:Int)))&&(decide (y27≤y36)))) [(26,BL (decide (0 < (i27:Int)))),(34,_)] O O O .scf ⟨.all id,.part,G⟩ (fun hc=>Rm O O O O) ?_)))
  refine JLh (BL ((!r34)||((decide (0 < (i27:Int)))&&(decide (y27≤y36))))) (G28 O O O O) O (G5 (hK32 (JCc O h (fun h hb=>?_) (fun h hb=>?_))))
  ·
   refine Jr fun hK37=>(JLm (BL false) O (G5 (hK37 (Gq (fin1 BL h)))))
  ·
   refine Gr (hK30 (G1 (JLh (I64 ((i27+1:Nat):Int)) (Jf (J6 hk27 hm8) O O O) O (JLm (I64 ((i27+1:Nat):Int)) O (G5 (e27 _ _ (i27+1) () (app1 hn27 h) (by omega) ⟨(.sm O O),G,rfl⟩))))))
 ·
  have h:=app1 hkx27 (Ja hi27 (Hs hb))
  refine Je (hK3 ?_)
  refine Jr fun hK38=>(JLm (.fn 154 []) O (JLh (Ej c) (G9 G73 O O O) O (JLh (I64 c.Bay) (Gg Gc O O O) O (JLh (.agg [I64 c.Bay,I64 0,I64 39]) (Hb (cs:=[I64 c.Bay,I64 0,I64 39]) [(0,1),(1,1),(2,1)] [I64 0,I64 0,I64 0] [E0,E0,E0] Yr G00 ⟨.inl O,.inl O,.inl O,G⟩ O O) O (JLh (.dptr [I64 c.Row,BL c.Deck,I64 c.Tiers,I64 c.Height,I64 c.Kilos20,I64 c.Kilos40,I64 c.Lash,E2 c.Plugs,I64 c.X,I64 c.Y,I64 c.Z]) (G9 G72 O O O) O (JLh (I64 c.Row) (Gg Gc O O O) O (JLh (.agg [I64 c.Row,I64 0,I64 30]) (Hb (cs:=[I64 c.Row,I64 0,I64 30]) [(0,1),(1,1),(2,1)] [I64 0,I64 0,I64 0] [E0,E0,E0] Yr G00 ⟨.inl O,.inl O,.inl O,G⟩ O O) O (JLh (.dptr (Ep c)) (G9 H18 O O O) O (JLh (I64 c.Tiers) (Gg Gc O O O) O (JLh (.agg [I64 c.Tiers,I64 1,I64 10]) (Hb (cs:=[I64 c.Tiers,I64 1,I64 10]) [(0,1),(1,1),(2,1)] [I64 0,I64 0,I64 0] [E0,E0,E0] Yr G00 ⟨.inl O,.inl O,.inl O,G⟩ O O) O (JLh (.dptr [I64 c.Height,I64 c.Kilos20,I64 c.Kilos40,I64 c.Lash,E2 c.Plugs,I64 c.X,I64 c.Y,I64 c.Z]) (G9 Ha3 O O O) O (JLh (I64 c.Height) (Gg Gc O O O) O (JLh (.agg [I64 c.Height,I64 0,I64 40000]) (Hb (cs:=[I64 c.Height,I64 0,I64 40000]) [(0,1),(1,1),(2,1)] [I64 0,I64 0,I64 0] [E0,E0,E0] Yr G00 ⟨.inl O,.inl O,.inl O,G⟩ O O) O ?_)))))))))))))
  refine JLh (.dptr [I64 c.Kilos20,I64 c.Kilos40,I64 c.Lash,E2 c.Plugs,I64 c.X,I64 c.Y,I64 c.Z]) (G9 Qd0 O O O) O (JLh (I64 c.Kilos20) (Gg Gc O O O) O (JLh (.agg [I64 c.Kilos20,I64 0,I64 500000000]) (Hb (cs:=[I64 c.Kilos20,I64 0,I64 500000000]) [(0,1),(1,1),(2,1)] [I64 0,I64 0,I64 0] [E0,E0,E0] Yr G00 ⟨.inl O,.inl O,.inl O,G⟩ O O) O (JLh (.dptr [I64 c.Kilos40,I64 c.Lash,E2 c.Plugs,I64 c.X,I64 c.Y,I64 c.Z]) (G9 Qcf O O O) O (JLh (I64 c.Kilos40) (Gg Gc O O O) O (JLh (.agg [I64 c.Kilos40,I64 0,I64 500000000]) (Hb (cs:=[I64 c.Kilos40,I64 0,I64 500000000]) [(0,1),(1,1),(2,1)] [I64 0,I64 0,I64 0] [E0,E0,E0] Yr G00 ⟨.inl O,.inl O,.inl O,G⟩ O O) O (JLh (.dptr [I64 c.Lash,E2 c.Plugs,I64 c.X,I64 c.Y,I64 c.Z]) (G9 Qce O O O) O (JLh (I64 c.Lash) (Gg Gc O O O) O (JLh (.agg [I64 c.Lash,I64 0,I64 1000000000000]) (Hb (cs:=[I64 c.Lash,I64 0,I64 1000000000000]) [(0,1),(1,1),(2,1)] [I64 0,I64 0,I64 0] [E0,E0,E0] Yr G00 ⟨.inl O,.inl O,.inl O,G⟩ O O) O (JLh (.dptr [I64 c.X,I64 c.Y,I64 c.Z]) (G9 J55 O O O) O (JLh (I64 c.X) (Gg Gc O O O) O (JLh (.agg [I64 c.X,I64 (-500000),I64 500000]) (Hb (cs:=[I64 c.X,I64 (-500000),I64 500000]) [(0,1),(1,1),(2,1)] [I64 0,I64 0,I64 0] [E0,E0,E0] Yr G00 ⟨.inl O,.inl O,.inl O,G⟩ O O) O (JLh (.dptr [I64 c.Y,I64 c.Z]) (G9 J0f O O O) O (JLh (I64 c.Y) (Gg Gc O O O) O ?_)))))))))))))
  refine JLh (.agg [I64 c.Y,I64 (-500000),I64 500000]) (Hb (cs:=[I64 c.Y,I64 (-500000),I64 500000]) [(0,1),(1,1),(2,1)] [I64 0,I64 0,I64 0] [E0,E0,E0] Yr G00 ⟨.inl O,.inl O,.inl O,G⟩ O O) O (JLh (.dptr [I64 c.Z]) (G9 H61 O O O) O (JLh (I64 c.Z) (Gg Gc O O O) O (JLh (.agg [I64 c.Z,I64 (-500000),I64 500000]) (Hb (cs:=[I64 c.Z,I64 (-500000),I64 500000]) [(0,1),(1,1),(2,1)] [I64 0,I64 0,I64 0] [E0,E0,E0] Yr G00 ⟨.inl O,.inl O,.inl O,G⟩ O O) O (JLh (LS 3 Hm.av [(Hm.mk c.Bay 0 39),(Hm.mk c.Row 0 30),(Hm.mk c.Tiers 1 10),(Hm.mk c.Height 0 40000),(Hm.mk c.Kilos20 0 500000000),(Hm.mk c.Kilos40 0 500000000),(Hm.mk c.Lash 0 1000000000000),(Hm.mk c.X (-500000) 500000),(Hm.mk c.Y (-500000) 500000),(Hm.mk c.Z (-500000) 500000)]) (H8 (xs:=[.agg [I64 c.Bay,I64 0,I64 39],.agg [I64 c.Row,I64 0,I64 30],.agg [I64 c.Tiers,I64 1,I64 10],.agg [I64 c.Height,I64 0,I64 40000],.agg [I64 c.Kilos20,I64 0,I64 500000000],.agg [I64 c.Kilos40,I64 0,I64 500000000],.agg [I64 c.Lash,I64 0,I64 1000000000000],.agg [I64 c.X,I64 (-500000),I64 500000],.agg [I64 c.Y,I64 (-500000),I64 500000],.agg [I64 c.Z,I64 (-500000),I64 500000]]) O ⟨O,O,O,O,O,O,O,O,O,O,O,O,O,O,O,O,O,O,O,O,G⟩ H4e Hc8 O O O O) O ?_))))
  obtain⟨r39,hr39,h⟩:=Ga h
  refine JLh (BL r39) (G40 (args:=[LS 3 Hm.av [(Hm.mk c.Bay 0 39),(Hm.mk c.Row 0 30),(Hm.mk c.Tiers 1 10),(Hm.mk c.Height 0 40000),(Hm.mk c.Kilos20 0 500000000),(Hm.mk c.Kilos40 0 500000000),(Hm.mk c.Lash 0 1000000000000),(Hm.mk c.X (-500000) 500000),(Hm.mk c.Y (-500000) 500000),(Hm.mk c.Z (-500000) 500000)]]) (caps:=[]) O O (Hc1 [(Hm.mk c.Bay 0 39),(Hm.mk c.Row 0 30),(Hm.mk c.Tiers 1 10),(Hm.mk c.Height 0 40000),(Hm.mk c.Kilos20 0 500000000),(Hm.mk c.Kilos40 0 500000000),(Hm.mk c.Lash 0 1000000000000),(Hm.mk c.X (-500000) 500000),(Hm.mk c.Y (-500000) 500000),(Hm.mk c.Z (-500000) 500000)] r39 hr39) Jf5 ⟨O,O,G⟩ O) O (JLm (BL r39) O (G5 (hK38 (Gq (fin1 BL h)))))

def Gf7 (s:Gk) (Rp:Bool→Prop):Option Prop:=
 bif (((decide ((s.Columns.length:Int) < 1))||(decide (200 < (s.Columns.length:Int))))||(decide (40 < (s.Covers.length:Int)))) then
 (some (Rp false))
 else
 (each (fun y68 i68 (s68:(Ju Hg Int)) nx68=>
   jp (fun kj74=>
    bif y68.Deck then
    (kj74 1)
    else
    (kj74 0)) fun(j74:Int)=>
   bnd (some (Ju.get s68 (Hg.mk y68.Bay y68.Row j74) 0)) fun v77=>
   chk (v77+1) fun v78=>
   bnd (Gb1 y68) fun r80=>
   bif (!r80) then
   (some (Rp false))
   else
   (nx68 (Ju.put s68 (Hg.mk y68.Bay y68.Row j74) v78)))
  (fun(s68:(Ju Hg Int))=>
   each (fun y84 i84 (s84:(Ju Hg Int)) nx84=>
    bif (((decide (y84.Bay < 0))||(decide (40≤y84.Bay)))||(decide ((y84.Rows.length:Int)=0))) then
    (some (Rp false))
    else
    (each (fun y157 i157 (s157:(Ju Hg Int)) nx157=>
      bnd (bif ((!((decide (y157 < 0))||(decide (30 < y157))))&&(decide (0 < (i157:Int)))) then chk ((i157:Int) - 1) some else some 0) fun v164=>
      bnd (bif ((!((decide (y157 < 0))||(decide (30 < y157))))&&(decide (0 < (i157:Int)))) then Yy y84.Rows v164 some else some default) fun y165=>
      bif (((decide (y157 < 0))||(decide (30 < y157)))||((decide (0 < (i157:Int)))&&(decide (y157≤y165)))) then
      (some (Rp false))
      else
      (bnd (some (Ju.get s157 (Hg.mk y84.Bay y157 2) 0)) fun v167=>
       chk (v167+1) fun v168=>
       nx157 (Ju.put s157 (Hg.mk y84.Bay y157 2) v168)))
     (fun(s157:(Ju Hg Int))=>
      nx84 s157) y84.Rows 0 s84))
   (fun(s84:(Ju Hg Int))=>
    Hfb (fun(x176:Hg×Int) (s176:Unit) nx176=>
     bif decide (1 < x176.2) then
     (lft (some (Rp false)))
     else
     (nx176 ()))
    (fun(s176:Unit)=>
     some (Rp true)) (Ju.l s84) ()) s.Covers 0 s68) s.Columns 0 (Ju.empty:Ju Hg Int))
def H57 (s:Gk):Option Bool:=
 bif (((decide ((s.Columns.length:Int) < 1))||(decide (200 < (s.Columns.length:Int))))||(decide (40 < (s.Covers.length:Int)))) then
 (some (id false))
 else
 (each (fun y68 i68 (s68:(Ju Hg Int)) nx68=>
   jp (fun kj74=>
    bif y68.Deck then
    (kj74 1)
    else
    (kj74 0)) fun(j74:Int)=>
   bnd (some (Ju.get s68 (Hg.mk y68.Bay y68.Row j74) 0)) fun v77=>
   chk (v77+1) fun v78=>
   bnd (Gb1 y68) fun r80=>
   bif (!r80) then
   (some (id false))
   else
   (nx68 (Ju.put s68 (Hg.mk y68.Bay y68.Row j74) v78)))
  (fun(s68:(Ju Hg Int))=>
   each (fun y84 i84 (s84:(Ju Hg Int)) nx84=>
    bif (((decide (y84.Bay < 0))||(decide (40≤y84.Bay)))||(decide ((y84.Rows.length:Int)=0))) then
    (some (id false))
    else
    (each (fun y157 i157 (s157:(Ju Hg Int)) nx157=>
      bnd (bif ((!((decide (y157 < 0))||(decide (30 < y157))))&&(decide (0 < (i157:Int)))) then chk ((i157:Int) - 1) some else some 0) fun v164=>
      bnd (bif ((!((decide (y157 < 0))||(decide (30 < y157))))&&(decide (0 < (i157:Int)))) then Yy y84.Rows v164 some else some default) fun y165=>
      bif (((decide (y157 < 0))||(decide (30 < y157)))||((decide (0 < (i157:Int)))&&(decide (y157≤y165)))) then
      (some (id false))
      else
      (bnd (some (Ju.get s157 (Hg.mk y84.Bay y157 2) 0)) fun v167=>
       chk (v167+1) fun v168=>
       nx157 (Ju.put s157 (Hg.mk y84.Bay y157 2) v168)))
     (fun(s157:(Ju Hg Int))=>
      nx84 s157) y84.Rows 0 s84))
   (fun(s84:(Ju Hg Int))=>
    H24 (fun(x176:Hg×Int) (s176:Unit) nx176=>
     bif decide (1 < x176.2) then
     (lft (some (id false)))
     else
     (nx176 ()))
    (fun(s176:Unit)=>
     some (id true)) (Ju.l s84) ()) s.Covers 0 s68) s.Columns 0 (Ju.empty:Ju Hg Int))
abbrev Er (s:Gk):List AV:=[E7 s.Covers,I64 s.Light.Kilos,I64 s.Light.X,I64 s.Light.Y,I64 s.Light.Z,E3 s.Rows,E4 s.Frames,E5 s.Tanks,I64 s.G4.Tolerance,I64 s.G4.Trim,I64 s.G4.List_,I64 s.G4.Stability]
theorem Qb3 (s:Gk) (Rp:Bool→Prop) (p:Prop) (h:Gf7 s Rp=some p) (hp:p):Pure Eo 71 [.agg (Gk.cs s)] (fun av=>∃ r,Rp r∧av=BL r):=by
 unfold Gf7 at h
 refine Gy [.tmp 2] Tryz.func71 O O (Jr fun hK1=>(JLh (.ptr 1124 0) (Jk (cs:=(Gk.cs s)) 1124 O O O O O) O (JLm (BL false) O (G5 (hK1 (Gm [(1,Eg s)] [] 1124 rfl rfl rfl G rfl (by exact⟨.ptr,G⟩) (Js fun hK2=>?_)))))))
 refine Jr fun hK3=>(JLh (Eg s) (G9 Hv O O O) O (JLh (E1 s.Columns) (Gg J8 O O O) O (JLl Ht O O O fun hm15=>(JLh (BL (decide ((s.Columns.length:Int) < 1))) (Qg O O O) O (JLm (BL (decide ((s.Columns.length:Int) < 1))) O (JLo (Eg s) [] O .scf G (fun hc=>G9 Hv O O O) O (JLo (E1 s.Columns) [18] O .scf ⟨Ua,G⟩ (fun hc=>Gg J8 O O O) O (JLo (En s.Columns.length) [19] O .scf ⟨Ua,G⟩ (fun hc=>G1a (f:=G2.av) (xs:=s.Columns) Ht O O) O (JLo (BL (decide (200 < (s.Columns.length:Int)))) [20] O .scf ⟨Ua,G⟩ (fun hc=>Gb9 O O O) O (JLh (BL ((decide ((s.Columns.length:Int) < 1))||(decide (200 < (s.Columns.length:Int))))) (G28 O O O O) O (JLm (BL ((decide ((s.Columns.length:Int) < 1))||(decide (200 < (s.Columns.length:Int))))) O (JLo (.dptr (Er s)) [] O .scf G (fun hc=>G9 Jo O O O) O (JLo (E7 s.Covers) [24] O .scf ⟨Ua,G⟩ (fun hc=>Gg Qa O O O) O ?_)))))))))))))
 refine JLo (En s.Covers.length) [25] O .scf ⟨Ua,G⟩ (fun hc=>G1a (f:=G8.av) (xs:=s.Covers) Ji O O) O (JLo (BL (decide (40 < (s.Covers.length:Int)))) [26] O .scf ⟨Ua,G⟩ (fun hc=>Gb9 O O O) O (JLh (BL (((decide ((s.Columns.length:Int) < 1))||(decide (200 < (s.Columns.length:Int))))||(decide (40 < (s.Covers.length:Int))))) (G28 O O O O) O (G5 (hK3 (JCc O h (fun h hb=>?_) (fun h hb=>?_))))))
 ·
  refine Jr fun hK4=>(JLm (BL false) O (G5 (hK4 (Gq (⟨[BL false],[],G,O,⟨⟨_,O,.conv (.same O)⟩,G⟩,O,false,Eq.mpr (Option.some.inj h) hp,O⟩)))))
 ·
  refine Gr (hK2 (Jr fun hK5=>(JLh (.mp 1127) (Y08 1127 Hg.kv I64 O O) O (JLm (.mp 1127) O (G5 (hK5 (Js fun hK6=>Jr fun hK7=>(JLh (Eg s) (G9 Hv O O O) O (JLh (E1 s.Columns) (Gg J8 O O O) O (JLl Ht O O O fun hm32=>(JLm (I64 0) O (G5 (hK7 (Gw ?_))))))))))))))
  obtain⟨b68,kx68,hb68,hkx68,h⟩:=Jx h
  refine Jb (fun i68 (s68:(Ju Hg Int))=>each b68 kx68 (List.drop i68 s.Columns) i68 s68=some p) (fun i68 s68=>[(1,Eg s),(3,.mp 1127),(31,E1 s.Columns),(32,En s.Columns.length),(33,En i68)]) (fun i68 s68=>[(1127,MP 177 Hg.kv I64 s68)]) (fun i68=>s.Columns.length - i68) 0 (Ju.empty:Ju Hg Int) h ⟨(.sm O O),⟨⟨_,rfl,.map⟩,G⟩,rfl⟩ ?_
  clear h
  intro i68 s68 hi68 K68 e68
  refine Jr fun hK69=>(JLh (BL (decide ((i68:Int) < (s.Columns.length:Int)))) (Qg O O O) O (G5 (hK69 (Js fun hK70=>Gn O (fun hb=>?_) (fun hb=>?_)))))
  ·
   have hk68:=Qr hb
   obtain⟨y68,nx68,hy68,hn68,h⟩:=J9 hi68 hk68
   replace h:=G17 hb68 h
   refine Gr (hK70 (Js fun hK71=>Gw (Jr fun hK72=>(JLh (Ej y68) (Hf (f:=G2.av) (xs:=s.Columns) (y:=y68) O O O Ht hy68 O) O (JLh (.agg (G2.cs y68)) (Gi G75 O O O) O (JLh (.ptr 1125 0) (Hp 1125 12 G2e O O) O (Ho (u:=.junk) (Hc (u:=.agg (G2.cs y68)) (ds:=(G2.cs y68)) Hc9 O O O O O O O O) (G5 (hK72 ?_)))))))))
   refine Gm [(1,Eg s),(3,.mp 1127),(5,Ej y68),(31,E1 s.Columns),(32,En s.Columns.length),(33,En i68)] [(1127,MP 177 Hg.kv I64 s68)] 1125 rfl rfl rfl ⟨⟨_,rfl,.map⟩,G⟩ rfl (by repeat' (first | exact .ptr | constructor)) (Jr fun hK73=>(JLm (I64 0) O (G5 (hK73 ?_))))
   obtain⟨kj74,hkj74,h⟩:=Yu h
   refine Rg (fun j74:Int=>kj74 j74=some p) (fun j74=>[(1,Eg s),(3,.mp 1127),(5,Ej y68),(6,I64 j74),(31,E1 s.Columns),(32,En s.Columns.length),(33,En i68)]) (fun j74=>[(1127,MP 177 Hg.kv I64 s68)]) (fun Kj74 ej74=>?_) ?_
   ·
    refine Jr fun hK75=>(JLh (.dptr ((G2.cs y68).drop 2)) (G9 Ys O O O) O (JLh (BL y68.Deck) (Gg Q1 O O O) O (G5 (hK75 (JCc O h (fun h hb=>?_) (fun h hb=>?_))))))
    ·
     refine G1 (JLm (I64 1) O (G5 (ej74 _ _ 1 h ⟨(.sm O O),⟨⟨_,rfl,.map⟩,G⟩,rfl⟩)))
    ·
     refine Gr (ej74 _ _ 0 h ⟨(.sm O O),⟨⟨_,rfl,.map⟩,G⟩,rfl⟩)
   ·intro j74 h
    replace h:=app1 hkj74 h
    refine Js fun hK76=>Qc (l':=[(1,Eg s),(3,.mp 1127),(5,Ej y68),(6,I64 j74),(31,E1 s.Columns),(32,En s.Columns.length),(33,En i68)]) (L':=[(1127,MP 177 Hg.kv I64 s68)]) ⟨(.sm O O),⟨⟨_,rfl,.map⟩,G⟩,rfl⟩ ?_
    obtain⟨v77,hv77,h⟩:=Ga h
    obtain⟨v78,hv78,h⟩:=Jd h
    refine J4 [9,11] [0,0,0,0,0,0,0,0,0,0,1,0] [0,0,0,0,0,0,0,1,1,0,1,0] [[(1127,MP 177 Hg.kv I64 s68)],((1127,MI 177 Hg.kv I64 s68 (Hg.mk y68.Bay y68.Row j74) 0)::[(1127,MP 177 Hg.kv I64 s68)]),((1127,MP 177 Hg.kv I64 (Ju.put s68 (Hg.mk y68.Bay y68.Row j74) v78))::((1127,MI 177 Hg.kv I64 s68 (Hg.mk y68.Bay y68.Row j74) 0)::[(1127,MP 177 Hg.kv I64 s68)]))] J0 (by kernel_rfl) rfl rfl ?_
    refine Gd (u:=.mp 1127) O O ⟨Ge (G6 O O) O,G⟩ (Gd (u:=Ej y68) O O ⟨Ge (G9 G73 O O O) O,G⟩ (Gd (u:=I64 y68.Bay) O O ⟨Ge (Gg Gc O O O) O,G⟩ (Gd (u:=.dptr ((G2.cs y68).drop 1)) O O ⟨Ge (G9 G72 O O O) O,G⟩ (Gd (u:=I64 y68.Row) O O ⟨Ge (Gg Gc O O O) O,G⟩ (Gd (u:=I64 j74) O O ⟨Ge (G6 O O) O,G⟩ (Gd (u:=.agg [I64 y68.Bay,I64 y68.Row,I64 j74]) O O ⟨Ge (J86 (cs:=[I64 y68.Bay,I64 y68.Row,I64 j74]) [E0,E0,E0] Q69 Jf0 O O) O,G⟩ (Gd (u:=I64 v77) O O ⟨Ge (((Option.some.inj hv77) ▸ Qc2 (av:=I64) (m:=s68) (a:=(Hg.mk y68.Bay y68.Row j74)) 0 E0 O O O O Jc7 Gce H4c O)) O,Ge (((Option.some.inj hv77) ▸ Qc1 (av:=I64) (m:=s68) (a:=(Hg.mk y68.Bay y68.Row j74)) 0 E0 O O O O Jc7 Gce H4c O)) O,G⟩ (Gd (u:=I64 v78) O O ⟨Ge (Jf hv78 O O O) O,Ge (Jf hv78 O O O) O,G⟩ (D_w (u:=.tup [.junk,I64 (G31 (Ju.l s68) (Hg.mk y68.Bay y68.Row j74):Int)]) O O O O (Ge (Q24 (m:=s68) (a:=(Hg.mk y68.Bay y68.Row j74)) 0 E0 O O O O Jc7 Gce H4c O) O) (Gd (u:=I64 (G31 (Ju.l s68) (Hg.mk y68.Bay y68.Row j74):Int)) O O ⟨Ge (Gz O O O) O,G⟩ (H85 (u:=.junk) O O O O (Ge (J61 (m:=s68) (a:=(Hg.mk y68.Bay y68.Row j74)) (v:=v78) 0 O O O O O O) O) (Qw ?_))))))))))))
    refine hK76 (Jr fun hK79=>(JLh (.agg (G2.cs y68)) (Gi G75 O O O) O ?_))
    obtain⟨r80,hr80,h⟩:=Ga h
    refine JLh (BL r80) (Gs O (Qb1 y68 r80 hr80) R55 ⟨O,O,G⟩) O (JLh (BL (!r80)) (Qx (b:=r80) O O) O (G5 (hK79 (JCc O h (fun h hb=>?_) (fun h hb=>?_)))))
    ·
     refine Jr fun hK81=>(JLm (BL false) O (G5 (hK81 (Gq (⟨[BL false],[],G,O,⟨⟨_,O,.conv (.same O)⟩,G⟩,O,false,Eq.mpr (Option.some.inj h) hp,O⟩)))))
    ·
     refine Gr (hK71 (G1 (JLh (I64 ((i68+1:Nat):Int)) (Jf (J6 hk68 hm32) O O O) O (JLm (I64 ((i68+1:Nat):Int)) O (G5 (e68 _ _ (i68+1) (Ju.put s68 (Hg.mk y68.Bay y68.Row j74) v78) (app1 hn68 h) (by omega) ⟨(.sm O O),⟨⟨_,rfl,.map⟩,G⟩,rfl⟩))))))
  ·
   have h:=app1 hkx68 (Ja hi68 (Hs hb))
   refine Je (hK6 (Js fun hK82=>Jr fun hK83=>(JLh (.dptr (Er s)) (G9 Jo O O O) O (JLh (E7 s.Covers) (Gg Qa O O O) O (JLl Ji O O O fun hm56=>(JLm (I64 0) O (G5 (hK83 (Gw ?_)))))))))
   obtain⟨b84,kx84,hb84,hkx84,h⟩:=Jx h
   refine Jb (fun i84 (s84:(Ju Hg Int))=>each b84 kx84 (List.drop i84 s.Covers) i84 s84=some p) (fun i84 s84=>[(3,.mp 1127),(55,E7 s.Covers),(56,En s.Covers.length),(57,En i84)]) (fun i84 s84=>[(1127,MP 177 Hg.kv I64 s84)]) (fun i84=>s.Covers.length - i84) 0 s68 h ⟨(.sm O O),⟨⟨_,rfl,.map⟩,G⟩,rfl⟩ ?_
   clear h
   intro i84 s84 hi84 K84 e84
   refine Jr fun hK85=>(JLh (BL (decide ((i84:Int) < (s.Covers.length:Int)))) (Qg O O O) O (G5 (hK85 (Js fun hK86=>Gn O (fun hb=>?_) (fun hb=>?_)))))
   ·
    have hk84:=Qr hb
    obtain⟨y84,nx84,hy84,hn84,h⟩:=J9 hi84 hk84
    replace h:=G17 hb84 h
    refine Gr (hK86 (Js fun hK87=>Gw (Jr fun hK88=>(JLh (.dptr [I64 y84.Bay,E2 y84.Rows]) (Hf (f:=G8.av) (xs:=s.Covers) (y:=y84) O O O Ji hy84 O) O (JLh (.agg [I64 y84.Bay,E2 y84.Rows]) (Gi H66 O O O) O (JLh (.ptr 1126 0) (Hp 1126 2 Ge9 O O) O (Ho (u:=.junk) (Hc (u:=.agg [I64 y84.Bay,E2 y84.Rows]) (ds:=[I64 y84.Bay,E2 y84.Rows]) Jf4 O O O O O O O O) (G5 (hK88 (Gm [(3,.mp 1127),(8,.dptr [I64 y84.Bay,E2 y84.Rows]),(55,E7 s.Covers),(56,En s.Covers.length),(57,En i84)] [(1127,MP 177 Hg.kv I64 s84)] 1126 rfl rfl rfl ⟨⟨_,rfl,.map⟩,G⟩ rfl (by repeat' (first | exact .ptr | constructor)) (Js fun hK89=>?_)))))))))))
    refine Jr fun hK90=>(JLh (.dptr [I64 y84.Bay,E2 y84.Rows]) (G9 Gec O O O) O (JLh (I64 y84.Bay) (Gg Gc O O O) O (JLh (BL (decide (y84.Bay < 0))) (Qg O O O) O (JLm (BL (decide (y84.Bay < 0))) O (JLo (.dptr [I64 y84.Bay,E2 y84.Rows]) [] O .scf G (fun hc=>G9 Gec O O O) O (JLo (I64 y84.Bay) [65] O .scf ⟨Ua,G⟩ (fun hc=>Gg Gc O O O) O (JLo (BL (decide (40≤y84.Bay))) [66] O .scf ⟨Ua,G⟩ (fun hc=>Gfb O O O) O (JLh (BL ((decide (y84.Bay < 0))||(decide (40≤y84.Bay)))) (G28 O O O O) O (JLm (BL ((decide (y84.Bay < 0))||(decide (40≤y84.Bay)))) O (JLo (.dptr [E2 y84.Rows]) [] O .scf G (fun hc=>G9 G02 O O O) O (JLo (E2 y84.Rows) [70] O .scf ⟨Ua,G⟩ (fun hc=>Gg Yi O O O) O (JLo (En y84.Rows.length) [71] O .scf ⟨Ua,G⟩ (fun hc=>G1a (f:=I64) (xs:=y84.Rows) Gx O O) O (JLo (BL (decide ((y84.Rows.length:Int)=0))) [72] O .scf ⟨Ua,G⟩ (fun hc=>Q0 O O O) O ?_)))))))))))))
    refine JLh (BL (((decide (y84.Bay < 0))||(decide (40≤y84.Bay)))||(decide ((y84.Rows.length:Int)=0)))) (G28 O O O O) O (G5 (hK90 (JCc O h (fun h hb=>?_) (fun h hb=>?_))))
    ·
     refine Jr fun hK91=>(JLm (BL false) O (G5 (hK91 (Gq (⟨[BL false],[],G,O,⟨⟨_,O,.conv (.same O)⟩,G⟩,O,false,Eq.mpr (Option.some.inj h) hp,O⟩)))))
    ·
     refine Gr (hK89 (Jr fun hK92=>(JLh (.dptr [E2 y84.Rows]) (G9 G02 O O O) O (JLh (E2 y84.Rows) (Gg Yi O O O) O (JLl Gx O O O fun hm77=>(JLm (I64 0) O (G5 (hK92 (Gw ?_)))))))))
     obtain⟨b157,kx157,hb157,hkx157,h⟩:=Jx h
     refine Jb (fun i157 (s157:(Ju Hg Int))=>each b157 kx157 (List.drop i157 y84.Rows) i157 s157=some p) (fun i157 s157=>[(3,.mp 1127),(8,.dptr [I64 y84.Bay,E2 y84.Rows]),(55,E7 s.Covers),(56,En s.Covers.length),(57,En i84),(76,E2 y84.Rows),(77,En y84.Rows.length),(78,En i157)]) (fun i157 s157=>[(1127,MP 177 Hg.kv I64 s157)]) (fun i157=>y84.Rows.length - i157) 0 s84 h ⟨(.sm O O),⟨⟨_,rfl,.map⟩,G⟩,rfl⟩ ?_
     clear h
     intro i157 s157 hi157 K157 e157
     refine Jr fun hK158=>(JLh (BL (decide ((i157:Int) < (y84.Rows.length:Int)))) (Qg O O O) O (G5 (hK158 (Js fun hK159=>Gn O (fun hb=>?_) (fun hb=>?_)))))
     ·
      have hk157:=Qr hb
      obtain⟨y157,nx157,hy157,hn157,h⟩:=J9 hi157 hk157
      replace h:=G17 hb157 h
      refine Gr (hK159 (Js fun hK160=>Gw (Jr fun hK161=>(JLm (En i157) O (JLh (.dptr [I64 y157]) (Hf (f:=I64) (xs:=y84.Rows) (y:=y157) O O O Gx hy157 O) O (JLh (I64 y157) (Gg Gc O O O) O (JLm (En i157) O (JLm (I64 y157) O (G5 (hK161 (Js fun hK162=>?_)))))))))))
      refine Jr fun hK163=>(JLm (I64 y157) O (JLh (BL (decide (y157 < 0))) (Qg O O O) O (JLm (BL (decide (y157 < 0))) O (JLo (I64 y157) [] O .scf G (fun hc=>G6 O O) O (JLo (BL (decide (30 < y157))) [86] O .scf ⟨Ua,G⟩ (fun hc=>Gb9 O O O) O (JLh (BL ((decide (y157 < 0))||(decide (30 < y157)))) (G28 O O O O) O (JLm (BL ((decide (y157 < 0))||(decide (30 < y157)))) O (JLo (En i157) [] O .scf G (fun hc=>G6 O O) O (JLo (BL (decide (0 < (i157:Int)))) [90] O .scf ⟨Ua,G⟩ (fun hc=>Gb9 O O O) O (JLo (BL (decide (0 < (i157:Int)))) [91] O .scf ⟨Ua,G⟩ (fun hc=>G6 O O) O (JLo (I64 y157) [] O .optt G (fun hc=>G6 O O) O (JLo (.dptr [E2 y84.Rows]) [] O .optt G (fun hc=>G9 G02 O O O) O (JLo (E2 y84.Rows) [94] O .optt ⟨Ua,G⟩ (fun hc=>Gg Yi O O O) O ?_)))))))))))))
      refine JLo (En i157) [] O .optt G (fun hc=>G6 O O) O ?_
      obtain⟨v164,hv164,h⟩:=Ga h
      refine JLo (I64 v164) [96] O .optt ⟨Ua,G⟩ (fun hc=>H49 (H29 (H1 hc hv164)) O O O) O ?_
      obtain⟨y165,hy165,h⟩:=Ga h
      refine JLo (.dptr [I64 y165]) [95,97] O .optt ⟨Ua,Ua,G⟩ (fun hc=>(match Zi (H1 hc hy165) with | ⟨_,hm_,hy_⟩=>Hf (f:=I64) (xs:=y84.Rows) (y:=y165) O O O Gx hy_ hm_)) O (JLo (I64 y165) [98] O .optt ⟨Ua,G⟩ (fun hc=>Gg Gc O O O) O (JLo (BL (decide (y157≤y165))) [93,99] O .optt ⟨Ua,Ua,G⟩ (fun hc=>J06 O O O) O (Gf (u:=BL ((decide (0 < (i157:Int)))&&(decide (y157≤y165)))) [(92,BL (decide (0 < (i157:Int)))),(100,_)] O O O .scf ⟨.all id,.part,G⟩ (fun hc=>Rm O O O O) ?_)))
      refine JLh (BL (((decide (y157 < 0))||(decide (30 < y157)))||((decide (0 < (i157:Int)))&&(decide (y157≤y165))))) (G28 O O O O) O (G5 (hK163 (JCc O h (fun h hb=>?_) (fun h hb=>?_))))
      ·
       refine Jr fun hK166=>(JLm (BL false) O (G5 (hK166 (Gq (⟨[BL false],[],G,O,⟨⟨_,O,.conv (.same O)⟩,G⟩,O,false,Eq.mpr (Option.some.inj h) hp,O⟩)))))
      ·
       refine Gr (hK162 (Qc (l':=[(3,.mp 1127),(8,.dptr [I64 y84.Bay,E2 y84.Rows]),(10,I64 y157),(55,E7 s.Covers),(56,En s.Covers.length),(57,En i84),(76,E2 y84.Rows),(77,En y84.Rows.length),(78,En i157)]) (L':=[(1127,MP 177 Hg.kv I64 s157)]) ⟨(.sm O O),⟨⟨_,rfl,.map⟩,G⟩,rfl⟩ ?_))
       obtain⟨v167,hv167,h⟩:=Ga h
       obtain⟨v168,hv168,h⟩:=Jd h
       refine J4 [7,9] [0,0,0,0,0,0,0,0,1,0] [0,0,0,0,0,1,1,0,1,0] [[(1127,MP 177 Hg.kv I64 s157)],((1127,MI 177 Hg.kv I64 s157 (Hg.mk y84.Bay y157 2) 0)::[(1127,MP 177 Hg.kv I64 s157)]),((1127,MP 177 Hg.kv I64 (Ju.put s157 (Hg.mk y84.Bay y157 2) v168))::((1127,MI 177 Hg.kv I64 s157 (Hg.mk y84.Bay y157 2) 0)::[(1127,MP 177 Hg.kv I64 s157)]))] J0 (by kernel_rfl) rfl rfl ?_
       refine Gd (u:=.mp 1127) O O ⟨Ge (G6 O O) O,G⟩ (Gd (u:=.dptr [I64 y84.Bay,E2 y84.Rows]) O O ⟨Ge (G9 Gec O O O) O,G⟩ (Gd (u:=I64 y84.Bay) O O ⟨Ge (Gg Gc O O O) O,G⟩ (Gd (u:=I64 y157) O O ⟨Ge (G6 O O) O,G⟩ (Gd (u:=.agg [I64 y84.Bay,I64 y157,I64 2]) O O ⟨Ge (J86 (cs:=[I64 y84.Bay,I64 y157,I64 2]) [E0,E0,E0] Q69 Jf0 O O) O,G⟩ (Gd (u:=I64 v167) O O ⟨Ge (((Option.some.inj hv167) ▸ Qc2 (av:=I64) (m:=s157) (a:=(Hg.mk y84.Bay y157 2)) 0 E0 O O O O Jc7 Gce H4c O)) O,Ge (((Option.some.inj hv167) ▸ Qc1 (av:=I64) (m:=s157) (a:=(Hg.mk y84.Bay y157 2)) 0 E0 O O O O Jc7 Gce H4c O)) O,G⟩ (Gd (u:=I64 v168) O O ⟨Ge (Jf hv168 O O O) O,Ge (Jf hv168 O O O) O,G⟩ (D_w (u:=.tup [.junk,I64 (G31 (Ju.l s157) (Hg.mk y84.Bay y157 2):Int)]) O O O O (Ge (Q24 (m:=s157) (a:=(Hg.mk y84.Bay y157 2)) 0 E0 O O O O Jc7 Gce H4c O) O) (Gd (u:=I64 (G31 (Ju.l s157) (Hg.mk y84.Bay y157 2):Int)) O O ⟨Ge (Gz O O O) O,G⟩ (H85 (u:=.junk) O O O O (Ge (J61 (m:=s157) (a:=(Hg.mk y84.Bay y157 2)) (v:=v168) 0 O O O O O O) O) (Qw ?_))))))))))
       refine hK160 (G1 (JLh (I64 ((i157+1:Nat):Int)) (Jf (J6 hk157 hm77) O O O) O (JLm (I64 ((i157+1:Nat):Int)) O (G5 (e157 _ _ (i157+1) (Ju.put s157 (Hg.mk y84.Bay y157 2) v168) (app1 hn157 h) (by omega) ⟨(.sm O O),⟨⟨_,rfl,.map⟩,G⟩,rfl⟩)))))
     ·
      have h:=app1 hkx157 (Ja hi157 (Hs hb))
      refine Je (hK87 (G1 (JLh (I64 ((i84+1:Nat):Int)) (Jf (J6 hk84 hm56) O O O) O (JLm (I64 ((i84+1:Nat):Int)) O (G5 (e84 _ _ (i84+1) s157 (app1 hn84 h) (by omega) ⟨(.sm O O),⟨⟨_,rfl,.map⟩,G⟩,rfl⟩))))))
   ·
    have h:=app1 hkx84 (Ja hi84 (Hs hb))
    refine Je (hK82 (Js fun hK169=>Jr fun hK170=>(JLm (.mp 1127) O (JLh (.it 1128) (Yac 1128 (m:=s84) O O O O Gce) O (G5 (hK170 (Gw ?_)))))))
    obtain⟨b176,kx176,hb176,hkx176,h⟩:=H28 h
    refine J30 (Ju.size s84) (fun i176 (s176:Unit)=>MInv b176 kx176 (Ju.l s84) i176 s176) (fun i176 s176=>[(115,.it 1128)]) (fun i176 s176=>[(1127,MP 177 Hg.kv I64 s84),(1128,.iter (.mp 1127) (Ju.size s84) i176)]) () (MInv.start h hp) ⟨⟨.same O,G⟩,⟨⟨_,O,.map⟩,⟨_,O,.iter O⟩,G⟩,O⟩ ?_
    clear h hp
    intro i176 s176 hi176 K176 e176
    refine Jr fun hK177=>Zq O O O (Ye9 (m:=s84) O O O O) ?_
    intro u_ L_ hn_
    rcases hn_ with ⟨q176,x176,he176,hs176,rfl,rfl⟩ | ⟨ha176,rfl,rfl⟩
    ·
     obtain⟨o176,h,ho1_176,ho2_176⟩:=hi176.step he176 hs176
     replace h:=Q9b hb176 h
     refine JLh (BL true) (Gz O O O) O (G5 (hK177 (Js fun hK178=>J31 O (Gr (hK178 (Gw (Jr fun hK179=>(JLh (.tup [.agg (Hg.cs x176.1),I64 x176.2]) (Yb5 (kv:=Hg.kv) (av:=I64) (m:=s84) (q:=q176) (seen:=i176) (e:=x176) O O O O he176) O (JLh (I64 x176.2) (Gz O O O) O (JLm (I64 x176.2) O (G5 (hK179 (Jr fun hK180=>(JLm (I64 x176.2) O (JLh (BL (decide (1 < x176.2))) (Gb9 O O O) O (G5 (hK180 (JCc O h (fun h hb=>?_) (fun h hb=>?_)))))))))))))))))))
     ·
      refine Jr fun hK181=>(JLm (BL false) O (G5 (hK181 (Gq ?_))))
      obtain⟨y_,hy_,hl_⟩:=Y21 h
      exact⟨[BL false],[],G,O,⟨⟨_,O,.conv (.same O)⟩,G⟩,O,false,Eq.mpr (Option.some.inj hl_) (ho1_176 y_ hy_),O⟩
     ·
      refine Gr (e176 _ _ (i176++[q176]) () (ho2_176 _ (Option.some.inj h).symm) (Ga4 (List.getElem?_eq_some_iff.1 he176).1 hs176) ⟨⟨.same O,G⟩,⟨⟨_,O,.map⟩,⟨_,O,.iter O⟩,G⟩,O⟩)
    ·
     obtain⟨p_,h,hp⟩:=hi176.done ha176
     replace h:=app1 hkx176 h
     refine JLh (BL false) (Gz O O O) O (G5 (hK177 (Js fun hK182=>G27 O (Je (hK169 (Jr fun hK183=>(JLm (BL true) O (G5 (hK183 (Gq (⟨[BL true],[],G,O,⟨⟨_,O,.conv (.same O)⟩,G⟩,O,true,Eq.mpr (Option.some.inj h) hp,O⟩)))))))))))
theorem Qb4 (S_:(Gk)→Option Bool) (hS_:∀ s r,S_ s=some r→∃ p:Prop,Gf7 s (fun r_=>r_=r)=some p∧p) (s:Gk) (r:Bool) (h:S_ s=some r):Pure Eo 71 [.agg (Gk.cs s)] (·=BL r):=by
 obtain⟨p,h1,h2⟩:=hS_ s r h
 exact(Qb3 s _ p h1 h2).monoP (fun av hh=>by obtain⟨r_,rfl,ha⟩:=hh; exact ha)

def G45 (size:Int):Option (List Int):=
 bif decide (size=40) then
 (some [0])
 else
 (bif decide (size=20) then
  (some [1,2])
  else
  (some []))
theorem Hfe (size:Int) (r:(List Int)) (h:G45 size=some r):Pure Eo 114 [U8 size] (·=Ea r):=by
 unfold G45 at h
 refine Gy [.tmp 2] Tryz.func114 O O (Jr fun hK1=>(JLh (Ea ([]:List Int)) (Hk 1 O O) O (G5 (hK1 (Js fun hK2=>Jr fun hK3=>(JLm (U8 size) O (G5 (hK3 (Gw (Jr fun hK4=>(JLh (BL (decide (size=40))) (Q0 O O O) O (JLm (BL (decide (size=40))) O (G5 (hK4 (JCc O h (fun h hb=>?_) (fun h hb=>?_))))))))))))))))
 ·
  refine Jr fun hK5=>(JLh (Ea [0]) (H8 (xs:=[U8 0]) O ⟨O,O,G⟩ Ga5 Q45 O O O O) O (JLm (Ea [0]) O (G5 (hK5 (Gq (fin1 (fun r:(List Int)=>(Ea r:AV)) h))))))
 ·
  refine Jr fun hK6=>(JLh (BL (decide (size=20))) (Q0 O O O) O (JLm (BL (decide (size=20))) O (G5 (hK6 (JCc O h (fun h hb=>?_) (fun h hb=>?_))))))
  ·
   refine Jr fun hK7=>(JLh (Ea [1,2]) (H8 (xs:=[U8 1,U8 2]) O ⟨O,O,O,O,G⟩ Ga5 Q45 O O O O) O (JLm (Ea [1,2]) O (G5 (hK7 (Gq (fin1 (fun r:(List Int)=>(Ea r:AV)) h))))))
  ·
   refine Gr (hK2 (Jr fun hK8=>(JLh (Ea ([]:List Int)) (Hk 1 O O) O (G5 (hK8 (Gq (fin1 (fun r:(List Int)=>(Ea r:AV)) h)))))))

def Gf5 (p1:Gk) (p2:Int) (ys_:List Slot):Option Unit:=
 each (fun y2 i2 (s2:Nat) nx2=>
  need (decide ((max y2.Tiers 0)≤9223372036854775807)) <|
  upto (fun i8 (s8:Nat) nx8=>
   bnd (G45 p2) fun r14=>
   each (fun y29 i29 (s29:Nat) nx29=>
    need (decide (ys_[s29]? = some (Slot.mk (i2:Int) (i8:Int) y29))) <|
    nx29 (s29+1))
   (fun(s29:Nat)=>
    nx8 s29) r14 0 s8)
  (fun(s8:Nat)=>
   nx2 s8) (max y2.Tiers 0).toNat 0 s2)
 (fun(s2:Nat)=>
  need (decide (s2=ys_.length)) (some ())) p1.Columns 0 0
theorem Jde (p1:Gk) (p2:Int) (ys_:List Slot) (q_:Unit) (h:Gf5 p1 p2 ys_=some q_):Iter Eo 153 [.dptr (Gk.cs p1),.dptr [U8 p2]] (ys_.map (fun y:Slot=>[.agg [I64 y.G2,I64 y.Tier,U8 y.Half]])):=by
 unfold Gf5 at h
 refine Y32 Tryz.func153 O O ?_
 intro E hE hys
 refine Rh (fun K1 hK1=>Qh (J2 (u:=Eg p1) hE (G9 Hv O O O) ?_ O O O O))
 refine J2 (u:=E1 p1.Columns) hE (Gg J8 O O O) ?_ O O O O
 refine Qba hE (f:=G2.av) (xs:=p1.Columns) Ht O O (fun hm11=>?_) O O O
 refine J2 (u:=I64 0) hE (G6 O O) ?_ O O O O
 refine Rf ?_
 refine hK1 _ _ _ (G3f ?_)
 obtain⟨b2,kx2,hb2,hkx2,h⟩:=Jx h
 refine Jb9 (fun i2 (s2:Nat)=>each b2 kx2 (List.drop i2 p1.Columns) i2 s2=some q_) (fun i2 s2=>[(0,.sc (.func (.yield E.lp) #[] #[])),(2,.dptr [U8 p2]),(10,E1 p1.Columns),(11,En p1.Columns.length),(12,En i2)]) (fun i2 s2=>[]) (fun i2 s2=>s2) (fun i2=>p1.Columns.length - i2) 0 0 h ⟨(.sm O O),G,rfl⟩ rfl ?_
 clear h
 intro i2 s2 hi2 K2 e2
 refine Rh (fun K3 hK3=>Qh (J2 (u:=BL (decide ((i2:Int) < (p1.Columns.length:Int)))) hE (Qg O O O) ?_ O O O O))
 refine Rf ?_
 refine hK3 _ _ _ (Rh (fun K4 hK4=>J49 O (fun hb=>?_) (fun hb=>?_)))
 ·
  have hk2:=Qr hb
  obtain⟨y2,nx2,hy2,hn2,h⟩:=J9 hi2 hk2
  replace h:=G17 hb2 h
  refine Gcb (hK4 _ _ _ (Rh (fun K5 hK5=>G3f (Rh (fun K6 hK6=>Qh (J2 (u:=En i2) hE (G6 O O) ?_ O O O O))))))
  refine J2 (u:=Ej y2) hE (Hf (f:=G2.av) (xs:=p1.Columns) (y:=y2) O O O Ht hy2 O) ?_ O O O O
  refine J2 (u:=.agg (G2.cs y2)) hE (Gi G75 O O O) ?_ O O O O
  refine J2 (u:=.ptr 1191 0) hE (Hp 1191 12 G2e O O) ?_ O O O O
  refine J2 (u:=En i2) hE (G7 O O) ?_ O O O O
  refine Y2f (u:=.junk) hE (Hc (u:=.agg (G2.cs y2)) (ds:=(G2.cs y2)) Hc9 O O O O O O O O) ?_ O O O
  refine Rf ?_
  refine hK6 _ _ _ (Rh (fun K7 hK7=>Qh (J2 (u:=.ptr 1191 3) hE (Hh H18 O O) ?_ O O O O)))
  refine J2 (u:=I64 y2.Tiers) hE (Hx Gc O O O O) ?_ O O O O
  refine J2 (u:=I64 (max y2.Tiers 0)) hE (Yff O O O) ?_ O O O O
  refine J2 (u:=I64 0) hE (G6 O O) ?_ O O O O
  refine Rf ?_
  refine hK7 _ _ _ (G3f ?_)
  obtain⟨hx8,h⟩:=J7 h
  obtain⟨b8,kx8,hb8,hkx8,h⟩:=R13 h
  refine Jb9 (fun i8 (s8:Nat)=>upto b8 kx8 ((max y2.Tiers 0).toNat - i8) i8 s8=some q_) (fun i8 s8=>[(0,.sc (.func (.yield E.lp) #[] #[])),(2,.dptr [U8 p2]),(4,En i2),(10,E1 p1.Columns),(11,En p1.Columns.length),(12,En i2),(19,I64 (max y2.Tiers 0)),(20,En i8)]) (fun i8 s8=>[(1191,.box 58 (G2.cs y2))]) (fun i8 s8=>s8) (fun i8=>(max y2.Tiers 0).toNat - i8) 0 s2 h ⟨(.sm O O),⟨⟨_,rfl,.boxL rfl (.sm O O)⟩,G⟩,rfl⟩ rfl ?_
  clear h
  intro i8 s8 hi8 K8 e8
  refine Rh (fun K9 hK9=>Qh (J2 (u:=BL (decide ((i8:Int) < (max y2.Tiers 0)))) hE (Qg O O O) ?_ O O O O))
  refine Rf ?_
  refine hK9 _ _ _ (Rh (fun K10 hK10=>J49 O (fun hb=>?_) (fun hb=>?_)))
  ·
   have hk8:=Q85 hb
   obtain⟨nx8,hn8,h⟩:=Q40 hi8 hk8
   replace h:=Q9b hb8 h
   refine Gcb (hK10 _ _ _ (Rh (fun K11 hK11=>G3f (Rh (fun K12 hK12=>Qh (J2 (u:=En i8) hE (G6 O O) ?_ O O O O))))))
   refine J2 (u:=En i8) hE (G7 O O) ?_ O O O O
   refine Rf ?_
   refine hK12 _ _ _ (Rh (fun K13 hK13=>Qh (J2 (u:=U8 p2) hE (Gg Hn O O O) ?_ O O O O)))
   obtain⟨r14,hr14,h⟩:=Ga h
   refine J2 (u:=Ea r14) hE (Gs O (Hfe p2 r14 hr14) Jfc ⟨O,O,G⟩) ?_ O O O O
   refine Qba hE (f:=U8) (xs:=r14) Ga5 O O (fun hm25=>?_) O O O
   refine J2 (u:=I64 0) hE (G6 O O) ?_ O O O O
   refine Rf ?_
   refine hK13 _ _ _ (G3f ?_)
   obtain⟨b29,kx29,hb29,hkx29,h⟩:=Jx h
   refine Jb9 (fun i29 (s29:Nat)=>each b29 kx29 (List.drop i29 r14) i29 s29=some q_) (fun i29 s29=>[(0,.sc (.func (.yield E.lp) #[] #[])),(2,.dptr [U8 p2]),(4,En i2),(6,En i8),(10,E1 p1.Columns),(11,En p1.Columns.length),(12,En i2),(19,I64 (max y2.Tiers 0)),(20,En i8),(24,Ea r14),(25,En r14.length),(26,En i29)]) (fun i29 s29=>[(1191,.box 58 (G2.cs y2))]) (fun i29 s29=>s29) (fun i29=>r14.length - i29) 0 s8 h ⟨(.sm O O),⟨⟨_,rfl,.boxL rfl (.sm O O)⟩,G⟩,rfl⟩ rfl ?_
   clear h
   intro i29 s29 hi29 K29 e29
   refine Rh (fun K30 hK30=>Qh (J2 (u:=BL (decide ((i29:Int) < (r14.length:Int)))) hE (Qg O O O) ?_ O O O O))
   refine Rf ?_
   refine hK30 _ _ _ (Rh (fun K31 hK31=>J49 O (fun hb=>?_) (fun hb=>?_)))
   ·
    have hk29:=Qr hb
    obtain⟨y29,nx29,hy29,hn29,h⟩:=J9 hi29 hk29
    replace h:=G17 hb29 h
    refine Gcb (hK31 _ _ _ (Rh (fun K32 hK32=>G3f (Rh (fun K33 hK33=>Qh (J2 (u:=.dptr [U8 y29]) hE (Hf (f:=U8) (xs:=r14) (y:=y29) O O O Ga5 hy29 O) ?_ O O O O))))))
    refine J2 (u:=U8 y29) hE (Gg Hn O O O) ?_ O O O O
    refine J2 (u:=U8 y29) hE (G7 O O) ?_ O O O O
    refine Rf ?_
    refine hK33 _ _ _ (Rh (fun K34 hK34=>Qh (J2 (u:=.sc (.func (.yield E.lp) #[] #[])) hE (G6 O O) ?_ O O O O)))
    refine J2 (u:=En i2) hE (G6 O O) ?_ O O O O
    refine J2 (u:=En i8) hE (G6 O O) ?_ O O O O
    refine J2 (u:=U8 y29) hE (G6 O O) ?_ O O O O
    refine J2 (u:=.agg [En i2,En i8,U8 y29]) hE (Hb (cs:=[En i2,En i8,U8 y29]) [(0,1),(1,1),(2,1)] [I64 0,I64 0,U8 0] [E0,E0,.int .u8 0] Ga6 Gcd ⟨.inl O,.inl O,.inl O,G⟩ O O) ?_ O O O O
    obtain⟨ha35,h⟩:=J7 h
    refine Hc2 (us:=[.agg [En i2,En i8,U8 y29]]) hE O O ⟨O,O,G⟩ (Ra3 (f:=(fun y:Slot=>[.agg [I64 y.G2,I64 y.Tier,U8 y.Half]])) (x:=(Slot.mk (i2:Int) (i8:Int) y29)) hys ha35) ?_ O O O
    refine J2 (u:=BL false) hE (Qx (b:=true) O O) ?_ O O O O
    refine Rf ?_
    refine hK34 _ _ _ (H3a O (Gcb (hK32 _ _ _ (Qh (J2 (u:=I64 ((i29+1:Nat):Int)) hE (Jf (J6 hk29 hm25) O O O) ?_ O O O O)))))
    refine J2 (u:=I64 ((i29+1:Nat):Int)) hE (G6 O O) ?_ O O O O
    refine Rf ?_
    exact e29 _ _ (i29+1) (s29+1) _ (app1 hn29 h) (by omega) ⟨(.sm O O),⟨⟨_,rfl,.boxL rfl (.sm O O)⟩,G⟩,rfl⟩ rfl
   ·
    have h:=app1 hkx29 (Ja hi29 (Hs hb))
    refine Hf6 (hK11 _ _ _ (Qh (J2 (u:=I64 ((i8+1:Nat):Int)) hE (Jf (J6 hk8 (Jc6 hx8)) O O O) ?_ O O O O)))
    refine J2 (u:=I64 ((i8+1:Nat):Int)) hE (G6 O O) ?_ O O O O
    refine Rf ?_
    exact e8 _ _ (i8+1) s29 _ (app1 hn8 h) (by omega) ⟨(.sm O O),⟨⟨_,rfl,.boxL rfl (.sm O O)⟩,G⟩,rfl⟩ rfl
  ·
   have h:=app1 hkx8 (Q41 hi8 (He0 hb))
   refine Hf6 (hK5 _ _ _ (Qh (J2 (u:=I64 ((i2+1:Nat):Int)) hE (Jf (J6 hk2 hm11) O O O) ?_ O O O O)))
   refine J2 (u:=I64 ((i2+1:Nat):Int)) hE (G6 O O) ?_ O O O O
   refine Rf ?_
   exact e2 _ _ (i2+1) s8 _ (app1 hn2 h) (by omega) ⟨(.sm O O),G,rfl⟩ rfl
 ·
  have h:=app1 hkx2 (Ja hi2 (Hs hb))
  refine Hf6 (Y0c (J7 h).1)
theorem Jdf (S_:(Gk)→(Int)→Option (List Slot)) (hS_:∀ p1 p2 r,S_ p1 p2=some r→Gf5 p1 p2 r=some ()) (p1:Gk) (p2:Int) (r:List Slot) (h:S_ p1 p2=some r):Iter Eo 153 [.dptr (Gk.cs p1),.dptr [U8 p2]] (r.map (fun y:Slot=>[.agg [I64 y.G2,I64 y.Tier,U8 y.Half]])):=Jde p1 p2 r () (hS_ p1 p2 r h)
end
end Go.Proofs.YtidpfkmbfgihlaaGreat
