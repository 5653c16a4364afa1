/-
 Models of functions of the program,and that they return what the models say.
-/
import Derived.Test.YtidpfkmbfgihlaaGreatSortLay
import Derived.Test.YtidpfkmbfgihlaaGreatSeq
set_option maxRecDepth 100000
set_option maxHeartbeats 1000000
set_option linter.unusedVariables false
set_option linter.unusedSimpArgs false
namespace Go.Proofs.YtidpfkmbfgihlaaGreat
open Go.RowKit
noncomputable section
abbrev En:=Tryz.prog
structure Hk where
 n:Int
 low:Int
 high:Int
 deriving DecidableEq,Inhabited
def Hk.cs (x:Hk):List AV:=[I64 x.n,I64 x.low,I64 x.high]
def Hk.av (x:Hk):AV:=.agg x.cs
structure G2 where
 Bay:Int
 Row:Int
 Deck:Bool
 Tiers:Int
 Height:Int
 Kilos20:Int
 Kilos40:Int
 Lash:Int
 Plugs:List Int
 X:Int
 Y:Int
 Z:Int
 deriving DecidableEq,Inhabited
def G2.cs (x:G2):List AV:=[I64 x.Bay,I64 x.Row,BL x.Deck,I64 x.Tiers,I64 x.Height,I64 x.Kilos20,I64 x.Kilos40,I64 x.Lash,E2 x.Plugs,I64 x.X,I64 x.Y,I64 x.Z]
def G2.av (x:G2):AV:=.agg x.cs
abbrev Ei (x:G2):AV:=.dptr (G2.cs x)
abbrev E1:=LS 12 G2.av
structure G8 where
 Bay:Int
 Rows:List Int
 deriving DecidableEq,Inhabited
def G8.cs (x:G8):List AV:=[I64 x.Bay,E2 x.Rows]
def G8.av (x:G8):AV:=.agg x.cs
abbrev E6:=LS 2 G8.av
structure Light where
 Kilos:Int
 X:Int
 Y:Int
 Z:Int
 deriving DecidableEq,Inhabited
def Light.cs (x:Light):List AV:=[I64 x.Kilos,I64 x.X,I64 x.Y,I64 x.Z]
def Light.av (x:Light):AV:=.agg x.cs
structure Row where
 Draught:Int
 Kilos:Int
 Buoy:Int
 Metacentre:Int
 Y98:Int
 deriving DecidableEq,Inhabited
def Row.cs (x:Row):List AV:=[I64 x.Draught,I64 x.Kilos,I64 x.Buoy,I64 x.Metacentre,I64 x.Y98]
def Row.av (x:Row):AV:=.agg x.cs
abbrev E3:=LS 5 Row.av
structure Frame where
 X:Int
 Light:Int
 Share:Int
 Shear:Int
 Bend:Int
 deriving DecidableEq,Inhabited
def Frame.cs (x:Frame):List AV:=[I64 x.X,I64 x.Light,I64 x.Share,I64 x.Shear,I64 x.Bend]
def Frame.av (x:Frame):AV:=.agg x.cs
abbrev E4:=LS 5 Frame.av
structure Gp where
 Kilos:Int
 X:Int
 Y:Int
 Z:Int
 Surface:Int
 Steps:List Int
 deriving DecidableEq,Inhabited
def Gp.cs (x:Gp):List AV:=[I64 x.Kilos,I64 x.X,I64 x.Y,I64 x.Z,I64 x.Surface,E2 x.Steps]
def Gp.av (x:Gp):AV:=.agg x.cs
abbrev E5:=LS 6 Gp.av
structure G4 where
 Tolerance:Int
 Trim:Int
 List_:Int
 Stability:Int
 deriving DecidableEq,Inhabited
def G4.cs (x:G4):List AV:=[I64 x.Tolerance,I64 x.Trim,I64 x.List_,I64 x.Stability]
def G4.av (x:G4):AV:=.agg x.cs
structure Gk where
 Columns:List G2
 Covers:List G8
 Light:Light
 Rows:List Row
 Frames:List Frame
 Tanks:List Gp
 G4:G4
 deriving DecidableEq,Inhabited
def Gk.cs (x:Gk):List AV:=[E1 x.Columns,E6 x.Covers,I64 x.Light.Kilos,I64 x.Light.X,I64 x.Light.Y,I64 x.Light.Z,E3 x.Rows,E4 x.Frames,E5 x.Tanks,I64 x.G4.Tolerance,I64 x.G4.Trim,I64 x.G4.List_,I64 x.G4.Stability]
def Gk.av (x:Gk):AV:=.agg x.cs
abbrev Ef (x:Gk):AV:=.dptr (Gk.cs x)
structure Hf where
 e0:Int
 e1:Int
 e2:Int
 deriving DecidableEq,Inhabited
def Hf.cs (x:Hf):List AV:=[I64 x.e0,I64 x.e1,I64 x.e2]
def Hf.av (x:Hf):AV:=.agg x.cs
def Hf.ks (x:Hf):List Value:=[.int .i64 x.e0,.int .i64 x.e1,.int .i64 x.e2]
def Hf.kv (x:Hf):Value:=.agg x.ks.toArray
structure Slot where
 G2:Int
 Tier:Int
 Half:Int
 deriving DecidableEq,Inhabited
def Slot.cs (x:Slot):List AV:=[I64 x.G2,I64 x.Tier,U8 x.Half]
def Slot.av (x:Slot):AV:=.agg x.cs
abbrev Ej (x:Slot):AV:=.dptr (Slot.cs x)
abbrev E9:=LS 3 Slot.av
namespace XAF
theorem Yff (a b:Hf):J78 En 4 178 [.int .i64 a.e0,.int .i64 a.e1,.int .i64 a.e2] [.int .i64 b.e0,.int .i64 b.e1,.int .i64 b.e2]=some (decide (a=b)):=by
 refine(show _=some ((a.e0==b.e0)&&((a.e1==b.e1)&&((a.e2==b.e2)&&true))) by kernel_rfl).trans (congrArg some ?_)
 rw [Bool.eq_iff_iff]
 simp only [Bool.and_eq_true,beq_iff_eq,decide_eq_true_eq,Bool.and_true]
 constructor
 ·intro h; obtain⟨_,_,_⟩:=a; obtain⟨_,_,_⟩:=b; simp_all
 ·intro h; subst h; simp
theorem H64:Gf4 En 107 2=true:=by kernel_rfl
theorem Rd5:Gf4 En 205 3=true:=by kernel_rfl
theorem G79:Gf4 En 58 12=true:=by kernel_rfl
theorem Q6b:Yd6 En 178 3 1=true:=by kernel_rfl
theorem Jfd:H7 En 114=true:=by kernel_rfl
theorem R56:H7 En 125=true:=by kernel_rfl
theorem Jf6:H7 En 154=true:=by kernel_rfl
theorem Ged:Jj En 107 0 0=true:=by kernel_rfl
theorem G01:Jj En 107 1 1=true:=by kernel_rfl
theorem J0c:Jj En 205 0 0=true:=by kernel_rfl
theorem Q4d:Jj En 205 1 1=true:=by kernel_rfl
theorem Q4c:Jj En 205 2 2=true:=by kernel_rfl
theorem Hv:Jj En 36 0 0=true:=by kernel_rfl
theorem Jo:Jj En 36 1 1=true:=by kernel_rfl
theorem G77:Jj En 58 0 0=true:=by kernel_rfl
theorem G76:Jj En 58 1 1=true:=by kernel_rfl
theorem J0b:Jj En 58 10 10=true:=by kernel_rfl
theorem H5f:Jj En 58 11 11=true:=by kernel_rfl
theorem Ys:Jj En 58 2 2=true:=by kernel_rfl
theorem H17:Jj En 58 3 3=true:=by kernel_rfl
theorem Ha0:Jj En 58 4 4=true:=by kernel_rfl
theorem Qd2:Jj En 58 5 5=true:=by kernel_rfl
theorem Qd1:Jj En 58 6 6=true:=by kernel_rfl
theorem Qd0:Jj En 58 7 7=true:=by kernel_rfl
theorem J55:Jj En 58 8 8=true:=by kernel_rfl
theorem J54:Jj En 58 9 9=true:=by kernel_rfl
theorem Gcf:Zi En 177 178 3=true:=by kernel_rfl
theorem J0:En.follows .mixedOrders=true:=by kernel_rfl
theorem Yr:placesOf En 205=some [(0,1),(1,1),(2,1)]:=by kernel_rfl
theorem Ga8:placesOf En 43=some [(0,1),(1,1),(2,1)]:=by kernel_rfl
theorem J8:Y5 En 26=true:=by kernel_rfl
theorem Qb:Y5 En 27=true:=by kernel_rfl
theorem Gc:Y5 En 3=true:=by kernel_rfl
theorem Q1:Y5 En 4=true:=by kernel_rfl
theorem Hm:Y5 En 5=true:=by kernel_rfl
theorem Yj:Y5 En 51=true:=by kernel_rfl
theorem Jf5:Yt En 107 2=true:=by kernel_rfl
theorem R48:Yt En 205 3=true:=by kernel_rfl
theorem Hc4:Yt En 58 12=true:=by kernel_rfl
theorem Ga7:sliceB En 168 5 1=true:=by kernel_rfl
theorem H4b:sliceB En 203 205 3=true:=by kernel_rfl
theorem Ht:sliceB En 26 58 12=true:=by kernel_rfl
theorem Ji:sliceB En 27 107 2=true:=by kernel_rfl
theorem Gy:sliceB En 51 3 1=true:=by kernel_rfl
theorem Jf1:(En.info? 178).bind (fun i=>i.zero.map Value.cells)=some (List.toArray [E0,E0,E0]):=by kernel_rfl
theorem Zz:(En.info? 205).bind (fun i=>i.zero.map Value.cells)=some (List.toArray [E0,E0,E0]):=by kernel_rfl
theorem Gce:(En.info? 43).bind (fun i=>i.zero.map Value.cells)=some (List.toArray [E0,E0,.int .u8 0]):=by kernel_rfl
theorem Gea:Y2 En 107 2=true:=by kernel_rfl
theorem Hc3:Y2 En 205 3=true:=by kernel_rfl
theorem Q47:Y2 En 5 1=true:=by kernel_rfl
theorem G32:Y2 En 58 12=true:=by kernel_rfl
theorem H49:(En.info? 3).bind (·.zero)=some E0:=by kernel_rfl
theorem Jc7:Gd4 En 178 Hf.kv:=Gd4.of_eq Hf.ks (by kernel_rfl) (fun a b h=>by simp only [Hf.ks,List.cons.injEq,Value.int.injEq,Value.bool.injEq,Value.string.injEq,true_and,and_true] at h; obtain⟨_,_,_⟩:=a; obtain⟨_,_,_⟩:=b; simp_all) 4 (by decide) (fun a b=>Yff a b) (fun a=>by kernel_rfl) (fun a=>by simp [Instr.sameBits,Hf.ks])
end XAF
open XAF

def G5a (l:List Hk):Option Bool:=
 each (fun y18 i18 (s18:Unit) nx18=>
  bif ((decide (y18.n < y18.low))||(decide (y18.high < y18.n))) then
  (some false)
  else
  (nx18 ()))
 (fun(s18:Unit)=>
  some true) l 0 ()
theorem Hbc (l:List Hk) (r:Bool) (h:G5a l=some r):Pure En 154 [LS 3 Hk.av l] (·=BL r):=by
 unfold G5a at h
 refine Gz [.tmp 2] Tryz.func154 O O (Jr fun hK1=>(JLm (BL false) O (G5 (hK1 (Js fun hK2=>Jr fun hK3=>(JLm (LS 3 Hk.av l) O (JLl H4b O O O fun hm6=>(JLm (I64 0) O (G5 (hK3 (Gw ?_)))))))))))
 obtain⟨b18,kx18,hb18,hkx18,h⟩:=Jx h
 refine Jb (fun i18 (s18:Unit)=>each b18 kx18 (List.drop i18 l) i18 s18=some r) (fun i18 s18=>[(5,LS 3 Hk.av l),(6,Em l.length),(7,Em i18)]) (fun i18 s18=>[]) (fun i18=>l.length - i18) 0 () h ⟨(.sm O O),G,O⟩ ?_
 clear h
 intro i18 s18 hi18 K18 e18
 refine Jr fun hK19=>(JLh (BL (decide ((i18:Int) < (l.length:Int)))) (Qh O O O) O (G5 (hK19 (Js fun hK20=>Gn O (fun hb=>?_) (fun hb=>?_)))))
 ·
  have hk18:=Qr hb
  obtain⟨y18,nx18,hy18,hn18,h⟩:=J9 hi18 hk18
  replace h:=G14 hb18 h
  refine Gr (hK20 (Js fun hK21=>Gw (Jr fun hK22=>(JLh (.dptr [I64 y18.n,I64 y18.low,I64 y18.high]) (He (f:=Hk.av) (xs:=l) (y:=y18) O O O H4b hy18 O) O (JLh (.agg [I64 y18.n,I64 y18.low,I64 y18.high]) (Gi Rd5 O O O) O (JLh (.ptr 1192 0) (Ho 1192 3 Hc3 O O) O (Hn (u:=.junk) (Hc (u:=.agg [I64 y18.n,I64 y18.low,I64 y18.high]) (ds:=[I64 y18.n,I64 y18.low,I64 y18.high]) R48 O O O O O O O O) (G5 (hK22 (Gm [(4,.dptr [I64 y18.n,I64 y18.low,I64 y18.high]),(5,LS 3 Hk.av l),(6,Em l.length),(7,Em i18)] [] 1192 rfl rfl rfl G rfl (by repeat' (first | exact .ptr | constructor)) ?_))))))))))
  refine Jr fun hK23=>(JLh (.dptr [I64 y18.n,I64 y18.low,I64 y18.high]) (G9 J0c O O O) O (JLh (I64 y18.n) (Gg Gc O O O) O (JLh (.dptr [I64 y18.low,I64 y18.high]) (G9 Q4d O O O) O (JLh (I64 y18.low) (Gg Gc O O O) O (JLh (BL (decide (y18.n < y18.low))) (Qh O O O) O (JLm (BL (decide (y18.n < y18.low))) O (JLo (.dptr [I64 y18.n,I64 y18.low,I64 y18.high]) [] O .scf G (fun hc=>G9 J0c O O O) O (JLo (I64 y18.n) [17] O .scf ⟨Ua,G⟩ (fun hc=>Gg Gc O O O) O (JLo (.dptr [I64 y18.high]) [] O .scf G (fun hc=>G9 Q4c O O O) O (JLo (I64 y18.high) [19] O .scf ⟨Ua,G⟩ (fun hc=>Gg Gc O O O) O (JLo (BL (decide (y18.high < y18.n))) [18,20] O .scf ⟨Ua,Ua,G⟩ (fun hc=>Gb9 O O O) O (JLh (BL ((decide (y18.n < y18.low))||(decide (y18.high < y18.n)))) (G27 O O O O) O (G5 (hK23 ?_))))))))))))))
  refine JCc O h ?_ ?_<;>intro h hb
  ·
   refine Jr fun hK24=>(JLm (BL false) O (G5 (hK24 (Gq (fin1 BL h)))))
  ·
   refine Gr (hK21 (G1 (JLh (I64 ((i18+1:Nat):Int)) (Jf (J6 hk18 hm6) O O O) O (JLm (I64 ((i18+1:Nat):Int)) O (G5 (e18 _ _ (i18+1) () (app1 hn18 h) (by omega) ⟨(.sm O O),G,rfl⟩))))))
 ·
  have h:=app1 hkx18 (Ja hi18 (Hs hb))
  refine Je (hK2 (Jr fun hK25=>(JLm (BL true) O (G5 (hK25 (Gq (fin1 BL h)))))))

def Gb2 (c:G2):Option Bool:=
 each (fun y27 i27 (s27:Unit) nx27=>
  wrp (c.Tiers - 1) fun v33=>
  bnd (G5a [(Hk.mk y27 0 v33)]) fun r34=>
  bnd (bif ((!(!r34))&&(decide (0 < (i27:Int)))) then some (IntKind.i64.wrap ((i27:Int) - 1)) else some 0) fun v35=>
  bnd (bif ((!(!r34))&&(decide (0 < (i27:Int)))) then Yv c.Plugs v35 some else some default) fun y36=>
  bif ((!r34)||((decide (0 < (i27:Int)))&&(decide (y27≤y36)))) then
  (some false)
  else
  (nx27 ()))
 (fun(s27:Unit)=>
  bnd (G5a [(Hk.mk c.Bay 0 39),(Hk.mk c.Row 0 30),(Hk.mk c.Tiers 1 10),(Hk.mk c.Height 0 40000),(Hk.mk c.Kilos20 0 500000000),(Hk.mk c.Kilos40 0 500000000),(Hk.mk c.Lash 0 1000000000000),(Hk.mk c.X (-500000) 500000),(Hk.mk c.Y (-500000) 500000),(Hk.mk c.Z (-500000) 500000)]) fun r39=>
  some r39) c.Plugs 0 ()
abbrev Eo (c:G2):List AV:=[I64 c.Tiers,I64 c.Height,I64 c.Kilos20,I64 c.Kilos40,I64 c.Lash,E2 c.Plugs,I64 c.X,I64 c.Y,I64 c.Z]
theorem Qb5 (c:G2) (r:Bool) (h:Gb2 c=some r):Pure En 125 [.agg (G2.cs c)] (·=BL r):=by
 unfold Gb2 at h
 refine Gz [.tmp 2] Tryz.func125 O O (Jr fun hK1=>(JLh (.ptr 1174 0) (Jk (cs:=(G2.cs c)) 1174 O O O O O) O (JLm (BL false) O (G5 (hK1 (Gm [(1,Ei c)] [] 1174 rfl rfl rfl G rfl (by exact⟨.ptr,G⟩) (Jr fun hK2=>(JLm (.fn 154 []) O (G5 (hK2 (Js fun hK3=>Jr fun hK4=>(JLh (.dptr [E2 c.Plugs,I64 c.X,I64 c.Y,I64 c.Z]) (G9 J55 O O O) O (JLh (E2 c.Plugs) (Gg Yj O O O) O (JLl Gy O O O fun hm8=>(JLm (I64 0) O (G5 (hK4 (Gw ?_))))))))))))))))))
 obtain⟨b27,kx27,hb27,hkx27,h⟩:=Jx h
 refine Jb (fun i27 (s27:Unit)=>each b27 kx27 (List.drop i27 c.Plugs) i27 s27=some r) (fun i27 s27=>[(1,Ei c),(3,.fn 154 []),(7,E2 c.Plugs),(8,Em c.Plugs.length),(9,Em i27)]) (fun i27 s27=>[]) (fun i27=>c.Plugs.length - i27) 0 () h ⟨(.sm O O),G,rfl⟩ ?_
 clear h
 intro i27 s27 hi27 K27 e27
 refine Jr fun hK28=>(JLh (BL (decide ((i27:Int) < (c.Plugs.length:Int)))) (Qh O O O) O (G5 (hK28 (Js fun hK29=>Gn O (fun hb=>?_) (fun hb=>?_)))))
 ·
  have hk27:=Qr hb
  obtain⟨y27,nx27,hy27,hn27,h⟩:=J9 hi27 hk27
  replace h:=G14 hb27 h
  refine Gr (hK29 (Js fun hK30=>Gw (Jr fun hK31=>(JLm (Em i27) O (JLh (.dptr [I64 y27]) (He (f:=I64) (xs:=c.Plugs) (y:=y27) O O O Gy hy27 O) O (JLh (I64 y27) (Gg Gc O O O) O (JLm (Em i27) O (JLm (I64 y27) O (G5 (hK31 (Jr fun hK32=>(JLm (.fn 154 []) O (JLm (I64 y27) O (JLh (.dptr (Eo c)) (G9 H17 O O O) O (JLh (I64 c.Tiers) (Gg Gc O O O) O ?_)))))))))))))))
  obtain⟨v33,hv33,h⟩:=Yb8 h
  refine JLh (I64 v33) (H46 hv33 O O O) O (JLh (.agg [I64 y27,I64 0,I64 v33]) (Hb (cs:=[I64 y27,I64 0,I64 v33]) [(0,1),(1,1),(2,1)] [I64 0,I64 0,I64 0] [E0,E0,E0] Yr Zz ⟨.inl O,.inl O,.inl O,G⟩ O O) O (JLh (LS 3 Hk.av [(Hk.mk y27 0 v33)]) (H8 (xs:=[.agg [I64 y27,I64 0,I64 v33]]) O ⟨O,O,G⟩ H4b Hc3 O O O O) O ?_))
  obtain⟨r34,hr34,h⟩:=Ga h
  refine JLh (BL r34) (G44 (args:=[LS 3 Hk.av [(Hk.mk y27 0 v33)]]) (caps:=[]) O O (Hbc [(Hk.mk y27 0 v33)] r34 hr34) Jf6 ⟨O,O,G⟩ O) O (JLh (BL (!r34)) (Qx (b:=r34) O O) O (JLm (BL (!r34)) O (JLo (Em i27) [] O .scf G (fun hc=>G6 O O) O (JLo (BL (decide (0 < (i27:Int)))) [24] O .scf ⟨Ua,G⟩ (fun hc=>Gb9 O O O) O (JLo (BL (decide (0 < (i27:Int)))) [25] O .scf ⟨Ua,G⟩ (fun hc=>G6 O O) O (JLo (I64 y27) [] O .optt G (fun hc=>G6 O O) O (JLo (.dptr [E2 c.Plugs,I64 c.X,I64 c.Y,I64 c.Z]) [] O .optt G (fun hc=>G9 J55 O O O) O (JLo (E2 c.Plugs) [28] O .optt ⟨Ua,G⟩ (fun hc=>Gg Yj O O O) O (JLo (Em i27) [] O .optt G (fun hc=>G6 O O) O ?_)))))))))
  obtain⟨v35,hv35,h⟩:=Ga h
  refine JLo (I64 v35) [30] O .optt ⟨Ua,G⟩ (fun hc=>H46 (Option.some.inj (H2 hc hv35)) O O O) O ?_
  obtain⟨y36,hy36,h⟩:=Ga h
  refine JLo (.dptr [I64 y36]) [29,31] O .optt ⟨Ua,Ua,G⟩ (fun hc=>(match Zh (H2 hc hy36) with | ⟨_,hm_,hy_⟩=>He (f:=I64) (xs:=c.Plugs) (y:=y36) O O O Gy hy_ hm_)) O (JLo (I64 y36) [32] O .optt ⟨Ua,G⟩ (fun hc=>Gg Gc O O O) O (JLo (BL (decide (y27≤y36))) [27,33] O .optt ⟨Ua,Ua,G⟩ (fun hc=>J00 O O O) O (Gf (u:=BL ((decide (0 < (i27:Int)))&&(decide (y27≤y36)))) [(26,BL (decide (0 < (i27:Int)))),(34,_)] O O O .scf ⟨.all id,.part,G⟩ (fun hc=>Rm O O O O) ?_)))
  refine JLh (BL ((!r34)||((decide (0 < (i27:Int)))&&(decide (y27≤y36))))) (G27 O O O O) O (G5 (hK32 (JCc O h (fun h hb=>?_) (fun h hb=>?_))))
  ·
   refine Jr fun hK37=>(JLm (BL false) O (G5 (hK37 (Gq (fin1 BL h)))))
  ·
   refine Gr (hK30 (G1 (JLh (I64 ((i27+1:Nat):Int)) (Jf (J6 hk27 hm8) O O O) O (JLm (I64 ((i27+1:Nat):Int)) O (G5 (e27 _ _ (i27+1) () (app1 hn27 h) (by omega) ⟨(.sm O O),G,rfl⟩))))))
 ·
  have h:=app1 hkx27 (Ja hi27 (Hs hb))
  refine Je (hK3 ?_)
  refine Jr fun hK38=>(JLm (.fn 154 []) O (JLh (Ei c) (G9 G77 O O O) O (JLh (I64 c.Bay) (Gg Gc O O O) O (JLh (.agg [I64 c.Bay,I64 0,I64 39]) (Hb (cs:=[I64 c.Bay,I64 0,I64 39]) [(0,1),(1,1),(2,1)] [I64 0,I64 0,I64 0] [E0,E0,E0] Yr Zz ⟨.inl O,.inl O,.inl O,G⟩ O O) O (JLh (.dptr [I64 c.Row,BL c.Deck,I64 c.Tiers,I64 c.Height,I64 c.Kilos20,I64 c.Kilos40,I64 c.Lash,E2 c.Plugs,I64 c.X,I64 c.Y,I64 c.Z]) (G9 G76 O O O) O (JLh (I64 c.Row) (Gg Gc O O O) O (JLh (.agg [I64 c.Row,I64 0,I64 30]) (Hb (cs:=[I64 c.Row,I64 0,I64 30]) [(0,1),(1,1),(2,1)] [I64 0,I64 0,I64 0] [E0,E0,E0] Yr Zz ⟨.inl O,.inl O,.inl O,G⟩ O O) O (JLh (.dptr (Eo c)) (G9 H17 O O O) O (JLh (I64 c.Tiers) (Gg Gc O O O) O (JLh (.agg [I64 c.Tiers,I64 1,I64 10]) (Hb (cs:=[I64 c.Tiers,I64 1,I64 10]) [(0,1),(1,1),(2,1)] [I64 0,I64 0,I64 0] [E0,E0,E0] Yr Zz ⟨.inl O,.inl O,.inl O,G⟩ O O) O (JLh (.dptr [I64 c.Height,I64 c.Kilos20,I64 c.Kilos40,I64 c.Lash,E2 c.Plugs,I64 c.X,I64 c.Y,I64 c.Z]) (G9 Ha0 O O O) O (JLh (I64 c.Height) (Gg Gc O O O) O (JLh (.agg [I64 c.Height,I64 0,I64 40000]) (Hb (cs:=[I64 c.Height,I64 0,I64 40000]) [(0,1),(1,1),(2,1)] [I64 0,I64 0,I64 0] [E0,E0,E0] Yr Zz ⟨.inl O,.inl O,.inl O,G⟩ O O) O ?_)))))))))))))
  refine JLh (.dptr [I64 c.Kilos20,I64 c.Kilos40,I64 c.Lash,E2 c.Plugs,I64 c.X,I64 c.Y,I64 c.Z]) (G9 Qd2 O O O) O (JLh (I64 c.Kilos20) (Gg Gc O O O) O (JLh (.agg [I64 c.Kilos20,I64 0,I64 500000000]) (Hb (cs:=[I64 c.Kilos20,I64 0,I64 500000000]) [(0,1),(1,1),(2,1)] [I64 0,I64 0,I64 0] [E0,E0,E0] Yr Zz ⟨.inl O,.inl O,.inl O,G⟩ O O) O (JLh (.dptr [I64 c.Kilos40,I64 c.Lash,E2 c.Plugs,I64 c.X,I64 c.Y,I64 c.Z]) (G9 Qd1 O O O) O (JLh (I64 c.Kilos40) (Gg Gc O O O) O (JLh (.agg [I64 c.Kilos40,I64 0,I64 500000000]) (Hb (cs:=[I64 c.Kilos40,I64 0,I64 500000000]) [(0,1),(1,1),(2,1)] [I64 0,I64 0,I64 0] [E0,E0,E0] Yr Zz ⟨.inl O,.inl O,.inl O,G⟩ O O) O (JLh (.dptr [I64 c.Lash,E2 c.Plugs,I64 c.X,I64 c.Y,I64 c.Z]) (G9 Qd0 O O O) O (JLh (I64 c.Lash) (Gg Gc O O O) O (JLh (.agg [I64 c.Lash,I64 0,I64 1000000000000]) (Hb (cs:=[I64 c.Lash,I64 0,I64 1000000000000]) [(0,1),(1,1),(2,1)] [I64 0,I64 0,I64 0] [E0,E0,E0] Yr Zz ⟨.inl O,.inl O,.inl O,G⟩ O O) O (JLh (.dptr [I64 c.X,I64 c.Y,I64 c.Z]) (G9 J54 O O O) O (JLh (I64 c.X) (Gg Gc O O O) O (JLh (.agg [I64 c.X,I64 (-500000),I64 500000]) (Hb (cs:=[I64 c.X,I64 (-500000),I64 500000]) [(0,1),(1,1),(2,1)] [I64 0,I64 0,I64 0] [E0,E0,E0] Yr Zz ⟨.inl O,.inl O,.inl O,G⟩ O O) O (JLh (.dptr [I64 c.Y,I64 c.Z]) (G9 J0b O O O) O (JLh (I64 c.Y) (Gg Gc O O O) O ?_)))))))))))))
  refine JLh (.agg [I64 c.Y,I64 (-500000),I64 500000]) (Hb (cs:=[I64 c.Y,I64 (-500000),I64 500000]) [(0,1),(1,1),(2,1)] [I64 0,I64 0,I64 0] [E0,E0,E0] Yr Zz ⟨.inl O,.inl O,.inl O,G⟩ O O) O (JLh (.dptr [I64 c.Z]) (G9 H5f O O O) O (JLh (I64 c.Z) (Gg Gc O O O) O (JLh (.agg [I64 c.Z,I64 (-500000),I64 500000]) (Hb (cs:=[I64 c.Z,I64 (-500000),I64 500000]) [(0,1),(1,1),(2,1)] [I64 0,I64 0,I64 0] [E0,E0,E0] Yr Zz ⟨.inl O,.inl O,.inl O,G⟩ O O) O (JLh (LS 3 Hk.av [(Hk.mk c.Bay 0 39),(Hk.mk c.Row 0 30),(Hk.mk c.Tiers 1 10),(Hk.mk c.Height 0 40000),(Hk.mk c.Kilos20 0 500000000),(Hk.mk c.Kilos40 0 500000000),(Hk.mk c.Lash 0 1000000000000),(Hk.mk c.X (-500000) 500000),(Hk.mk c.Y (-500000) 500000),(Hk.mk c.Z (-500000) 500000)]) (H8 (xs:=[.agg [I64 c.Bay,I64 0,I64 39],.agg [I64 c.Row,I64 0,I64 30],.agg [I64 c.Tiers,I64 1,I64 10],.agg [I64 c.Height,I64 0,I64 40000],.agg [I64 c.Kilos20,I64 0,I64 500000000],.agg [I64 c.Kilos40,I64 0,I64 500000000],.agg [I64 c.Lash,I64 0,I64 1000000000000],.agg [I64 c.X,I64 (-500000),I64 500000],.agg [I64 c.Y,I64 (-500000),I64 500000],.agg [I64 c.Z,I64 (-500000),I64 500000]]) O ⟨O,O,O,O,O,O,O,O,O,O,O,O,O,O,O,O,O,O,O,O,G⟩ H4b Hc3 O O O O) O ?_))))
  obtain⟨r39,hr39,h⟩:=Ga h
  refine JLh (BL r39) (G44 (args:=[LS 3 Hk.av [(Hk.mk c.Bay 0 39),(Hk.mk c.Row 0 30),(Hk.mk c.Tiers 1 10),(Hk.mk c.Height 0 40000),(Hk.mk c.Kilos20 0 500000000),(Hk.mk c.Kilos40 0 500000000),(Hk.mk c.Lash 0 1000000000000),(Hk.mk c.X (-500000) 500000),(Hk.mk c.Y (-500000) 500000),(Hk.mk c.Z (-500000) 500000)]]) (caps:=[]) O O (Hbc [(Hk.mk c.Bay 0 39),(Hk.mk c.Row 0 30),(Hk.mk c.Tiers 1 10),(Hk.mk c.Height 0 40000),(Hk.mk c.Kilos20 0 500000000),(Hk.mk c.Kilos40 0 500000000),(Hk.mk c.Lash 0 1000000000000),(Hk.mk c.X (-500000) 500000),(Hk.mk c.Y (-500000) 500000),(Hk.mk c.Z (-500000) 500000)] r39 hr39) Jf6 ⟨O,O,G⟩ O) O (JLm (BL r39) O (G5 (hK38 (Gq (fin1 BL h)))))

def Gf8 (s:Gk) (Rp:Bool→Prop):Option Prop:=
 bif (((decide ((s.Columns.length:Int) < 1))||(decide (200 < (s.Columns.length:Int))))||(decide (40 < (s.Covers.length:Int)))) then
 (some (Rp false))
 else
 (each (fun y68 i68 (s68:(Ju Hf Int)) nx68=>
   jp (fun kj74=>
    bif y68.Deck then
    (kj74 1)
    else
    (kj74 0)) fun(j74:Int)=>
   bnd (some (Ju.get s68 (Hf.mk y68.Bay y68.Row j74) 0)) fun v77=>
   chk (v77+1) fun v78=>
   bnd (Gb2 y68) fun r80=>
   bif (!r80) then
   (some (Rp false))
   else
   (nx68 (Ju.put s68 (Hf.mk y68.Bay y68.Row j74) v78)))
  (fun(s68:(Ju Hf Int))=>
   each (fun y84 i84 (s84:(Ju Hf Int)) nx84=>
    bif (((decide (y84.Bay < 0))||(decide (40≤y84.Bay)))||(decide ((y84.Rows.length:Int)=0))) then
    (some (Rp false))
    else
    (each (fun y157 i157 (s157:(Ju Hf Int)) nx157=>
      bnd (bif ((!((decide (y157 < 0))||(decide (30 < y157))))&&(decide (0 < (i157:Int)))) then chk ((i157:Int) - 1) some else some 0) fun v164=>
      bnd (bif ((!((decide (y157 < 0))||(decide (30 < y157))))&&(decide (0 < (i157:Int)))) then Yv y84.Rows v164 some else some default) fun y165=>
      bif (((decide (y157 < 0))||(decide (30 < y157)))||((decide (0 < (i157:Int)))&&(decide (y157≤y165)))) then
      (some (Rp false))
      else
      (bnd (some (Ju.get s157 (Hf.mk y84.Bay y157 2) 0)) fun v167=>
       chk (v167+1) fun v168=>
       nx157 (Ju.put s157 (Hf.mk y84.Bay y157 2) v168)))
     (fun(s157:(Ju Hf Int))=>
      nx84 s157) y84.Rows 0 s84))
   (fun(s84:(Ju Hf Int))=>
    Hf5 (fun(x176:Hf×Int) (s176:Unit) nx176=>
     bif decide (1 < x176.2) then
     (lft (some (Rp false)))
     else
     (nx176 ()))
    (fun(s176:Unit)=>
     some (Rp true)) (Ju.l s84) ()) s.Covers 0 s68) s.Columns 0 (Ju.empty:Ju Hf Int))
def H55 (s:Gk):Option Bool:=
 bif (((decide ((s.Columns.length:Int) < 1))||(decide (200 < (s.Columns.length:Int))))||(decide (40 < (s.Covers.length:Int)))) then
 (some (id false))
 else
 (each (fun y68 i68 (s68:(Ju Hf Int)) nx68=>
   jp (fun kj74=>
    bif y68.Deck then
    (kj74 1)
    else
    (kj74 0)) fun(j74:Int)=>
   bnd (some (Ju.get s68 (Hf.mk y68.Bay y68.Row j74) 0)) fun v77=>
   chk (v77+1) fun v78=>
   bnd (Gb2 y68) fun r80=>
   bif (!r80) then
   (some (id false))
   else
   (nx68 (Ju.put s68 (Hf.mk y68.Bay y68.Row j74) v78)))
  (fun(s68:(Ju Hf Int))=>
   each (fun y84 i84 (s84:(Ju Hf Int)) nx84=>
    bif (((decide (y84.Bay < 0))||(decide (40≤y84.Bay)))||(decide ((y84.Rows.length:Int)=0))) then
    (some (id false))
    else
    (each (fun y157 i157 (s157:(Ju Hf Int)) nx157=>
      bnd (bif ((!((decide (y157 < 0))||(decide (30 < y157))))&&(decide (0 < (i157:Int)))) then chk ((i157:Int) - 1) some else some 0) fun v164=>
      bnd (bif ((!((decide (y157 < 0))||(decide (30 < y157))))&&(decide (0 < (i157:Int)))) then Yv y84.Rows v164 some else some default) fun y165=>
      bif (((decide (y157 < 0))||(decide (30 < y157)))||((decide (0 < (i157:Int)))&&(decide (y157≤y165)))) then
      (some (id false))
      else
      (bnd (some (Ju.get s157 (Hf.mk y84.Bay y157 2) 0)) fun v167=>
       chk (v167+1) fun v168=>
       nx157 (Ju.put s157 (Hf.mk y84.Bay y157 2) v168)))
     (fun(s157:(Ju Hf Int))=>
      nx84 s157) y84.Rows 0 s84))
   (fun(s84:(Ju Hf Int))=>
    H23 (fun(x176:Hf×Int) (s176:Unit) nx176=>
     bif decide (1 < x176.2) then
     (lft (some (id false)))
     else
     (nx176 ()))
    (fun(s176:Unit)=>
     some (id true)) (Ju.l s84) ()) s.Covers 0 s68) s.Columns 0 (Ju.empty:Ju Hf Int))
abbrev Ep (s:Gk):List AV:=[E6 s.Covers,I64 s.Light.Kilos,I64 s.Light.X,I64 s.Light.Y,I64 s.Light.Z,E3 s.Rows,E4 s.Frames,E5 s.Tanks,I64 s.G4.Tolerance,I64 s.G4.Trim,I64 s.G4.List_,I64 s.G4.Stability]
theorem Qb7 (s:Gk) (Rp:Bool→Prop) (p:Prop) (h:Gf8 s Rp=some p) (hp:p):Pure En 71 [.agg (Gk.cs s)] (fun av=>∃ r,Rp r∧av=BL r):=by
 unfold Gf8 at h
 refine Gz [.tmp 2] Tryz.func71 O O (Jr fun hK1=>(JLh (.ptr 1124 0) (Jk (cs:=(Gk.cs s)) 1124 O O O O O) O (JLm (BL false) O (G5 (hK1 (Gm [(1,Ef s)] [] 1124 rfl rfl rfl G rfl (by exact⟨.ptr,G⟩) (Js fun hK2=>?_)))))))
 refine Jr fun hK3=>(JLh (Ef s) (G9 Hv O O O) O (JLh (E1 s.Columns) (Gg J8 O O O) O (JLl Ht O O O fun hm15=>(JLh (BL (decide ((s.Columns.length:Int) < 1))) (Qh O O O) O (JLm (BL (decide ((s.Columns.length:Int) < 1))) O (JLo (Ef s) [] O .scf G (fun hc=>G9 Hv O O O) O (JLo (E1 s.Columns) [18] O .scf ⟨Ua,G⟩ (fun hc=>Gg J8 O O O) O (JLo (Em s.Columns.length) [19] O .scf ⟨Ua,G⟩ (fun hc=>G17 (f:=G2.av) (xs:=s.Columns) Ht O O) O (JLo (BL (decide (200 < (s.Columns.length:Int)))) [20] O .scf ⟨Ua,G⟩ (fun hc=>Gb9 O O O) O (JLh (BL ((decide ((s.Columns.length:Int) < 1))||(decide (200 < (s.Columns.length:Int))))) (G27 O O O O) O (JLm (BL ((decide ((s.Columns.length:Int) < 1))||(decide (200 < (s.Columns.length:Int))))) O (JLo (.dptr (Ep s)) [] O .scf G (fun hc=>G9 Jo O O O) O (JLo (E6 s.Covers) [24] O .scf ⟨Ua,G⟩ (fun hc=>Gg Qb O O O) O ?_)))))))))))))
 refine JLo (Em s.Covers.length) [25] O .scf ⟨Ua,G⟩ (fun hc=>G17 (f:=G8.av) (xs:=s.Covers) Ji O O) O (JLo (BL (decide (40 < (s.Covers.length:Int)))) [26] O .scf ⟨Ua,G⟩ (fun hc=>Gb9 O O O) O (JLh (BL (((decide ((s.Columns.length:Int) < 1))||(decide (200 < (s.Columns.length:Int))))||(decide (40 < (s.Covers.length:Int))))) (G27 O O O O) O (G5 (hK3 (JCc O h (fun h hb=>?_) (fun h hb=>?_))))))
 ·
  refine Jr fun hK4=>(JLm (BL false) O (G5 (hK4 (Gq (⟨[BL false],[],G,O,⟨⟨_,O,.conv (.same O)⟩,G⟩,O,false,Eq.mpr (Option.some.inj h) hp,O⟩)))))
 ·
  refine Gr (hK2 (Jr fun hK5=>(JLh (.mp 1127) (Y02 1127 Hf.kv I64 O O) O (JLm (.mp 1127) O (G5 (hK5 (Js fun hK6=>Jr fun hK7=>(JLh (Ef s) (G9 Hv O O O) O (JLh (E1 s.Columns) (Gg J8 O O O) O (JLl Ht O O O fun hm32=>(JLm (I64 0) O (G5 (hK7 (Gw ?_))))))))))))))
  obtain⟨b68,kx68,hb68,hkx68,h⟩:=Jx h
  refine Jb (fun i68 (s68:(Ju Hf Int))=>each b68 kx68 (List.drop i68 s.Columns) i68 s68=some p) (fun i68 s68=>[(1,Ef s),(3,.mp 1127),(31,E1 s.Columns),(32,Em s.Columns.length),(33,Em i68)]) (fun i68 s68=>[(1127,MP 177 Hf.kv I64 s68)]) (fun i68=>s.Columns.length - i68) 0 (Ju.empty:Ju Hf Int) h ⟨(.sm O O),⟨⟨_,rfl,.map⟩,G⟩,rfl⟩ ?_
  clear h
  intro i68 s68 hi68 K68 e68
  refine Jr fun hK69=>(JLh (BL (decide ((i68:Int) < (s.Columns.length:Int)))) (Qh O O O) O (G5 (hK69 (Js fun hK70=>Gn O (fun hb=>?_) (fun hb=>?_)))))
  ·
   have hk68:=Qr hb
   obtain⟨y68,nx68,hy68,hn68,h⟩:=J9 hi68 hk68
   replace h:=G14 hb68 h
   refine Gr (hK70 (Js fun hK71=>Gw (Jr fun hK72=>(JLh (Ei y68) (He (f:=G2.av) (xs:=s.Columns) (y:=y68) O O O Ht hy68 O) O (JLh (.agg (G2.cs y68)) (Gi G79 O O O) O (JLh (.ptr 1125 0) (Ho 1125 12 G32 O O) O (Hn (u:=.junk) (Hc (u:=.agg (G2.cs y68)) (ds:=(G2.cs y68)) Hc4 O O O O O O O O) (G5 (hK72 ?_)))))))))
   refine Gm [(1,Ef s),(3,.mp 1127),(5,Ei y68),(31,E1 s.Columns),(32,Em s.Columns.length),(33,Em i68)] [(1127,MP 177 Hf.kv I64 s68)] 1125 rfl rfl rfl ⟨⟨_,rfl,.map⟩,G⟩ rfl (by repeat' (first | exact .ptr | constructor)) (Jr fun hK73=>(JLm (I64 0) O (G5 (hK73 ?_))))
   obtain⟨kj74,hkj74,h⟩:=Yu h
   refine Rg (fun j74:Int=>kj74 j74=some p) (fun j74=>[(1,Ef s),(3,.mp 1127),(5,Ei y68),(6,I64 j74),(31,E1 s.Columns),(32,Em s.Columns.length),(33,Em i68)]) (fun j74=>[(1127,MP 177 Hf.kv I64 s68)]) (fun Kj74 ej74=>?_) ?_
   ·
    refine Jr fun hK75=>(JLh (.dptr ((G2.cs y68).drop 2)) (G9 Ys O O O) O (JLh (BL y68.Deck) (Gg Q1 O O O) O (G5 (hK75 (JCc O h (fun h hb=>?_) (fun h hb=>?_))))))
    ·
     refine G1 (JLm (I64 1) O (G5 (ej74 _ _ 1 h ⟨(.sm O O),⟨⟨_,rfl,.map⟩,G⟩,rfl⟩)))
    ·
     refine Gr (ej74 _ _ 0 h ⟨(.sm O O),⟨⟨_,rfl,.map⟩,G⟩,rfl⟩)
   ·intro j74 h
    replace h:=app1 hkj74 h
    refine Js fun hK76=>Qd (l':=[(1,Ef s),(3,.mp 1127),(5,Ei y68),(6,I64 j74),(31,E1 s.Columns),(32,Em s.Columns.length),(33,Em i68)]) (L':=[(1127,MP 177 Hf.kv I64 s68)]) ⟨(.sm O O),⟨⟨_,rfl,.map⟩,G⟩,rfl⟩ ?_
    obtain⟨v77,hv77,h⟩:=Ga h
    obtain⟨v78,hv78,h⟩:=Jd h
    refine J4 [9,11] [0,0,0,0,0,0,0,0,0,0,1,0] [0,0,0,0,0,0,0,1,1,0,1,0] [[(1127,MP 177 Hf.kv I64 s68)],((1127,MI 177 Hf.kv I64 s68 (Hf.mk y68.Bay y68.Row j74) 0)::[(1127,MP 177 Hf.kv I64 s68)]),((1127,MP 177 Hf.kv I64 (Ju.put s68 (Hf.mk y68.Bay y68.Row j74) v78))::((1127,MI 177 Hf.kv I64 s68 (Hf.mk y68.Bay y68.Row j74) 0)::[(1127,MP 177 Hf.kv I64 s68)]))] J0 (by kernel_rfl) rfl rfl ?_
    refine Gd (u:=.mp 1127) O O ⟨Ge (G6 O O) O,G⟩ (Gd (u:=Ei y68) O O ⟨Ge (G9 G77 O O O) O,G⟩ (Gd (u:=I64 y68.Bay) O O ⟨Ge (Gg Gc O O O) O,G⟩ (Gd (u:=.dptr ((G2.cs y68).drop 1)) O O ⟨Ge (G9 G76 O O O) O,G⟩ (Gd (u:=I64 y68.Row) O O ⟨Ge (Gg Gc O O O) O,G⟩ (Gd (u:=I64 j74) O O ⟨Ge (G6 O O) O,G⟩ (Gd (u:=.agg [I64 y68.Bay,I64 y68.Row,I64 j74]) O O ⟨Ge (J85 (cs:=[I64 y68.Bay,I64 y68.Row,I64 j74]) [E0,E0,E0] Q6b Jf1 O O) O,G⟩ (Gd (u:=I64 v77) O O ⟨Ge (((Option.some.inj hv77) ▸ Qc4 (av:=I64) (m:=s68) (a:=(Hf.mk y68.Bay y68.Row j74)) 0 E0 O O O O Jc7 Gcf H49 O)) O,Ge (((Option.some.inj hv77) ▸ Qc3 (av:=I64) (m:=s68) (a:=(Hf.mk y68.Bay y68.Row j74)) 0 E0 O O O O Jc7 Gcf H49 O)) O,G⟩ (Gd (u:=I64 v78) O O ⟨Ge (Jf hv78 O O O) O,Ge (Jf hv78 O O O) O,G⟩ (D_w (u:=.tup [.junk,I64 (G35 (Ju.l s68) (Hf.mk y68.Bay y68.Row j74):Int)]) O O O O (Ge (Q27 (m:=s68) (a:=(Hf.mk y68.Bay y68.Row j74)) 0 E0 O O O O Jc7 Gcf H49 O) O) (Gd (u:=I64 (G35 (Ju.l s68) (Hf.mk y68.Bay y68.Row j74):Int)) O O ⟨Ge (H0 O O O) O,G⟩ (H82 (u:=.junk) O O O O (Ge (J60 (m:=s68) (a:=(Hf.mk y68.Bay y68.Row j74)) (v:=v78) 0 O O O O O O) O) (Qw ?_))))))))))))
    refine hK76 (Jr fun hK79=>(JLh (.agg (G2.cs y68)) (Gi G79 O O O) O ?_))
    obtain⟨r80,hr80,h⟩:=Ga h
    refine JLh (BL r80) (Gs O (Qb5 y68 r80 hr80) R56 ⟨O,O,G⟩) O (JLh (BL (!r80)) (Qx (b:=r80) O O) O (G5 (hK79 (JCc O h (fun h hb=>?_) (fun h hb=>?_)))))
    ·
     refine Jr fun hK81=>(JLm (BL false) O (G5 (hK81 (Gq (⟨[BL false],[],G,O,⟨⟨_,O,.conv (.same O)⟩,G⟩,O,false,Eq.mpr (Option.some.inj h) hp,O⟩)))))
    ·
     refine Gr (hK71 (G1 (JLh (I64 ((i68+1:Nat):Int)) (Jf (J6 hk68 hm32) O O O) O (JLm (I64 ((i68+1:Nat):Int)) O (G5 (e68 _ _ (i68+1) (Ju.put s68 (Hf.mk y68.Bay y68.Row j74) v78) (app1 hn68 h) (by omega) ⟨(.sm O O),⟨⟨_,rfl,.map⟩,G⟩,rfl⟩))))))
  ·
   have h:=app1 hkx68 (Ja hi68 (Hs hb))
   refine Je (hK6 (Js fun hK82=>Jr fun hK83=>(JLh (.dptr (Ep s)) (G9 Jo O O O) O (JLh (E6 s.Covers) (Gg Qb O O O) O (JLl Ji O O O fun hm56=>(JLm (I64 0) O (G5 (hK83 (Gw ?_)))))))))
   obtain⟨b84,kx84,hb84,hkx84,h⟩:=Jx h
   refine Jb (fun i84 (s84:(Ju Hf Int))=>each b84 kx84 (List.drop i84 s.Covers) i84 s84=some p) (fun i84 s84=>[(3,.mp 1127),(55,E6 s.Covers),(56,Em s.Covers.length),(57,Em i84)]) (fun i84 s84=>[(1127,MP 177 Hf.kv I64 s84)]) (fun i84=>s.Covers.length - i84) 0 s68 h ⟨(.sm O O),⟨⟨_,rfl,.map⟩,G⟩,rfl⟩ ?_
   clear h
   intro i84 s84 hi84 K84 e84
   refine Jr fun hK85=>(JLh (BL (decide ((i84:Int) < (s.Covers.length:Int)))) (Qh O O O) O (G5 (hK85 (Js fun hK86=>Gn O (fun hb=>?_) (fun hb=>?_)))))
   ·
    have hk84:=Qr hb
    obtain⟨y84,nx84,hy84,hn84,h⟩:=J9 hi84 hk84
    replace h:=G14 hb84 h
    refine Gr (hK86 (Js fun hK87=>Gw (Jr fun hK88=>(JLh (.dptr [I64 y84.Bay,E2 y84.Rows]) (He (f:=G8.av) (xs:=s.Covers) (y:=y84) O O O Ji hy84 O) O (JLh (.agg [I64 y84.Bay,E2 y84.Rows]) (Gi H64 O O O) O (JLh (.ptr 1126 0) (Ho 1126 2 Gea O O) O (Hn (u:=.junk) (Hc (u:=.agg [I64 y84.Bay,E2 y84.Rows]) (ds:=[I64 y84.Bay,E2 y84.Rows]) Jf5 O O O O O O O O) (G5 (hK88 (Gm [(3,.mp 1127),(8,.dptr [I64 y84.Bay,E2 y84.Rows]),(55,E6 s.Covers),(56,Em s.Covers.length),(57,Em i84)] [(1127,MP 177 Hf.kv I64 s84)] 1126 rfl rfl rfl ⟨⟨_,rfl,.map⟩,G⟩ rfl (by repeat' (first | exact .ptr | constructor)) (Js fun hK89=>?_)))))))))))
    refine Jr fun hK90=>(JLh (.dptr [I64 y84.Bay,E2 y84.Rows]) (G9 Ged O O O) O (JLh (I64 y84.Bay) (Gg Gc O O O) O (JLh (BL (decide (y84.Bay < 0))) (Qh O O O) O (JLm (BL (decide (y84.Bay < 0))) O (JLo (.dptr [I64 y84.Bay,E2 y84.Rows]) [] O .scf G (fun hc=>G9 Ged O O O) O (JLo (I64 y84.Bay) [65] O .scf ⟨Ua,G⟩ (fun hc=>Gg Gc O O O) O (JLo (BL (decide (40≤y84.Bay))) [66] O .scf ⟨Ua,G⟩ (fun hc=>Gfc O O O) O (JLh (BL ((decide (y84.Bay < 0))||(decide (40≤y84.Bay)))) (G27 O O O O) O (JLm (BL ((decide (y84.Bay < 0))||(decide (40≤y84.Bay)))) O (JLo (.dptr [E2 y84.Rows]) [] O .scf G (fun hc=>G9 G01 O O O) O (JLo (E2 y84.Rows) [70] O .scf ⟨Ua,G⟩ (fun hc=>Gg Yj O O O) O (JLo (Em y84.Rows.length) [71] O .scf ⟨Ua,G⟩ (fun hc=>G17 (f:=I64) (xs:=y84.Rows) Gy O O) O (JLo (BL (decide ((y84.Rows.length:Int)=0))) [72] O .scf ⟨Ua,G⟩ (fun hc=>Q0 O O O) O ?_)))))))))))))
    refine JLh (BL (((decide (y84.Bay < 0))||(decide (40≤y84.Bay)))||(decide ((y84.Rows.length:Int)=0)))) (G27 O O O O) O (G5 (hK90 (JCc O h (fun h hb=>?_) (fun h hb=>?_))))
    ·
     refine Jr fun hK91=>(JLm (BL false) O (G5 (hK91 (Gq (⟨[BL false],[],G,O,⟨⟨_,O,.conv (.same O)⟩,G⟩,O,false,Eq.mpr (Option.some.inj h) hp,O⟩)))))
    ·
     refine Gr (hK89 (Jr fun hK92=>(JLh (.dptr [E2 y84.Rows]) (G9 G01 O O O) O (JLh (E2 y84.Rows) (Gg Yj O O O) O (JLl Gy O O O fun hm77=>(JLm (I64 0) O (G5 (hK92 (Gw ?_)))))))))
     obtain⟨b157,kx157,hb157,hkx157,h⟩:=Jx h
     refine Jb (fun i157 (s157:(Ju Hf Int))=>each b157 kx157 (List.drop i157 y84.Rows) i157 s157=some p) (fun i157 s157=>[(3,.mp 1127),(8,.dptr [I64 y84.Bay,E2 y84.Rows]),(55,E6 s.Covers),(56,Em s.Covers.length),(57,Em i84),(76,E2 y84.Rows),(77,Em y84.Rows.length),(78,Em i157)]) (fun i157 s157=>[(1127,MP 177 Hf.kv I64 s157)]) (fun i157=>y84.Rows.length - i157) 0 s84 h ⟨(.sm O O),⟨⟨_,rfl,.map⟩,G⟩,rfl⟩ ?_
     clear h
     intro i157 s157 hi157 K157 e157
     refine Jr fun hK158=>(JLh (BL (decide ((i157:Int) < (y84.Rows.length:Int)))) (Qh O O O) O (G5 (hK158 (Js fun hK159=>Gn O (fun hb=>?_) (fun hb=>?_)))))
     ·
      have hk157:=Qr hb
      obtain⟨y157,nx157,hy157,hn157,h⟩:=J9 hi157 hk157
      replace h:=G14 hb157 h
      refine Gr (hK159 (Js fun hK160=>Gw (Jr fun hK161=>(JLm (Em i157) O (JLh (.dptr [I64 y157]) (He (f:=I64) (xs:=y84.Rows) (y:=y157) O O O Gy hy157 O) O (JLh (I64 y157) (Gg Gc O O O) O (JLm (Em i157) O (JLm (I64 y157) O (G5 (hK161 (Js fun hK162=>?_)))))))))))
      refine Jr fun hK163=>(JLm (I64 y157) O (JLh (BL (decide (y157 < 0))) (Qh O O O) O (JLm (BL (decide (y157 < 0))) O (JLo (I64 y157) [] O .scf G (fun hc=>G6 O O) O (JLo (BL (decide (30 < y157))) [86] O .scf ⟨Ua,G⟩ (fun hc=>Gb9 O O O) O (JLh (BL ((decide (y157 < 0))||(decide (30 < y157)))) (G27 O O O O) O (JLm (BL ((decide (y157 < 0))||(decide (30 < y157)))) O (JLo (Em i157) [] O .scf G (fun hc=>G6 O O) O (JLo (BL (decide (0 < (i157:Int)))) [90] O .scf ⟨Ua,G⟩ (fun hc=>Gb9 O O O) O (JLo (BL (decide (0 < (i157:Int)))) [91] O .scf ⟨Ua,G⟩ (fun hc=>G6 O O) O (JLo (I64 y157) [] O .optt G (fun hc=>G6 O O) O (JLo (.dptr [E2 y84.Rows]) [] O .optt G (fun hc=>G9 G01 O O O) O (JLo (E2 y84.Rows) [94] O .optt ⟨Ua,G⟩ (fun hc=>Gg Yj O O O) O ?_)))))))))))))
      refine JLo (Em i157) [] O .optt G (fun hc=>G6 O O) O ?_
      obtain⟨v164,hv164,h⟩:=Ga h
      refine JLo (I64 v164) [96] O .optt ⟨Ua,G⟩ (fun hc=>H46 (H28 (H2 hc hv164)) O O O) O ?_
      obtain⟨y165,hy165,h⟩:=Ga h
      refine JLo (.dptr [I64 y165]) [95,97] O .optt ⟨Ua,Ua,G⟩ (fun hc=>(match Zh (H2 hc hy165) with | ⟨_,hm_,hy_⟩=>He (f:=I64) (xs:=y84.Rows) (y:=y165) O O O Gy hy_ hm_)) O (JLo (I64 y165) [98] O .optt ⟨Ua,G⟩ (fun hc=>Gg Gc O O O) O (JLo (BL (decide (y157≤y165))) [93,99] O .optt ⟨Ua,Ua,G⟩ (fun hc=>J00 O O O) O (Gf (u:=BL ((decide (0 < (i157:Int)))&&(decide (y157≤y165)))) [(92,BL (decide (0 < (i157:Int)))),(100,_)] O O O .scf ⟨.all id,.part,G⟩ (fun hc=>Rm O O O O) ?_)))
      refine JLh (BL (((decide (y157 < 0))||(decide (30 < y157)))||((decide (0 < (i157:Int)))&&(decide (y157≤y165))))) (G27 O O O O) O (G5 (hK163 (JCc O h (fun h hb=>?_) (fun h hb=>?_))))
      ·
       refine Jr fun hK166=>(JLm (BL false) O (G5 (hK166 (Gq (⟨[BL false],[],G,O,⟨⟨_,O,.conv (.same O)⟩,G⟩,O,false,Eq.mpr (Option.some.inj h) hp,O⟩)))))
      ·
       refine Gr (hK162 (Qd (l':=[(3,.mp 1127),(8,.dptr [I64 y84.Bay,E2 y84.Rows]),(10,I64 y157),(55,E6 s.Covers),(56,Em s.Covers.length),(57,Em i84),(76,E2 y84.Rows),(77,Em y84.Rows.length),(78,Em i157)]) (L':=[(1127,MP 177 Hf.kv I64 s157)]) ⟨(.sm O O),⟨⟨_,rfl,.map⟩,G⟩,rfl⟩ ?_))
       obtain⟨v167,hv167,h⟩:=Ga h
       obtain⟨v168,hv168,h⟩:=Jd h
       refine J4 [7,9] [0,0,0,0,0,0,0,0,1,0] [0,0,0,0,0,1,1,0,1,0] [[(1127,MP 177 Hf.kv I64 s157)],((1127,MI 177 Hf.kv I64 s157 (Hf.mk y84.Bay y157 2) 0)::[(1127,MP 177 Hf.kv I64 s157)]),((1127,MP 177 Hf.kv I64 (Ju.put s157 (Hf.mk y84.Bay y157 2) v168))::((1127,MI 177 Hf.kv I64 s157 (Hf.mk y84.Bay y157 2) 0)::[(1127,MP 177 Hf.kv I64 s157)]))] J0 (by kernel_rfl) rfl rfl ?_
       refine Gd (u:=.mp 1127) O O ⟨Ge (G6 O O) O,G⟩ (Gd (u:=.dptr [I64 y84.Bay,E2 y84.Rows]) O O ⟨Ge (G9 Ged O O O) O,G⟩ (Gd (u:=I64 y84.Bay) O O ⟨Ge (Gg Gc O O O) O,G⟩ (Gd (u:=I64 y157) O O ⟨Ge (G6 O O) O,G⟩ (Gd (u:=.agg [I64 y84.Bay,I64 y157,I64 2]) O O ⟨Ge (J85 (cs:=[I64 y84.Bay,I64 y157,I64 2]) [E0,E0,E0] Q6b Jf1 O O) O,G⟩ (Gd (u:=I64 v167) O O ⟨Ge (((Option.some.inj hv167) ▸ Qc4 (av:=I64) (m:=s157) (a:=(Hf.mk y84.Bay y157 2)) 0 E0 O O O O Jc7 Gcf H49 O)) O,Ge (((Option.some.inj hv167) ▸ Qc3 (av:=I64) (m:=s157) (a:=(Hf.mk y84.Bay y157 2)) 0 E0 O O O O Jc7 Gcf H49 O)) O,G⟩ (Gd (u:=I64 v168) O O ⟨Ge (Jf hv168 O O O) O,Ge (Jf hv168 O O O) O,G⟩ (D_w (u:=.tup [.junk,I64 (G35 (Ju.l s157) (Hf.mk y84.Bay y157 2):Int)]) O O O O (Ge (Q27 (m:=s157) (a:=(Hf.mk y84.Bay y157 2)) 0 E0 O O O O Jc7 Gcf H49 O) O) (Gd (u:=I64 (G35 (Ju.l s157) (Hf.mk y84.Bay y157 2):Int)) O O ⟨Ge (H0 O O O) O,G⟩ (H82 (u:=.junk) O O O O (Ge (J60 (m:=s157) (a:=(Hf.mk y84.Bay y157 2)) (v:=v168) 0 O O O O O O) O) (Qw ?_))))))))))
       refine hK160 (G1 (JLh (I64 ((i157+1:Nat):Int)) (Jf (J6 hk157 hm77) O O O) O (JLm (I64 ((i157+1:Nat):Int)) O (G5 (e157 _ _ (i157+1) (Ju.put s157 (Hf.mk y84.Bay y157 2) v168) (app1 hn157 h) (by omega) ⟨(.sm O O),⟨⟨_,rfl,.map⟩,G⟩,rfl⟩)))))
     ·
      have h:=app1 hkx157 (Ja hi157 (Hs hb))
      refine Je (hK87 (G1 (JLh (I64 ((i84+1:Nat):Int)) (Jf (J6 hk84 hm56) O O O) O (JLm (I64 ((i84+1:Nat):Int)) O (G5 (e84 _ _ (i84+1) s157 (app1 hn84 h) (by omega) ⟨(.sm O O),⟨⟨_,rfl,.map⟩,G⟩,rfl⟩))))))
   ·
    have h:=app1 hkx84 (Ja hi84 (Hs hb))
    refine Je (hK82 (Js fun hK169=>Jr fun hK170=>(JLm (.mp 1127) O (JLh (.it 1128) (Ya8 1128 (m:=s84) O O O O Gcf) O (G5 (hK170 (Gw ?_)))))))
    obtain⟨b176,kx176,hb176,hkx176,h⟩:=H27 h
    refine J2e (Ju.size s84) (fun i176 (s176:Unit)=>MInv b176 kx176 (Ju.l s84) i176 s176) (fun i176 s176=>[(115,.it 1128)]) (fun i176 s176=>[(1127,MP 177 Hf.kv I64 s84),(1128,.iter (.mp 1127) (Ju.size s84) i176)]) () (MInv.start h hp) ⟨⟨.same O,G⟩,⟨⟨_,O,.map⟩,⟨_,O,.iter O⟩,G⟩,O⟩ ?_
    clear h hp
    intro i176 s176 hi176 K176 e176
    refine Jr fun hK177=>Zp O O O (Ye4 (m:=s84) O O O O) ?_
    intro u_ L_ hn_
    rcases hn_ with ⟨q176,x176,he176,hs176,rfl,rfl⟩ | ⟨ha176,rfl,rfl⟩
    ·
     obtain⟨o176,h,ho1_176,ho2_176⟩:=hi176.step he176 hs176
     replace h:=Q9e hb176 h
     refine JLh (BL true) (H0 O O O) O (G5 (hK177 (Js fun hK178=>J2f O (Gr (hK178 (Gw (Jr fun hK179=>(JLh (.tup [.agg (Hf.cs x176.1),I64 x176.2]) (Yb1 (kv:=Hf.kv) (av:=I64) (m:=s84) (q:=q176) (seen:=i176) (e:=x176) O O O O he176) O (JLh (I64 x176.2) (H0 O O O) O (JLm (I64 x176.2) O (G5 (hK179 (Jr fun hK180=>(JLm (I64 x176.2) O (JLh (BL (decide (1 < x176.2))) (Gb9 O O O) O (G5 (hK180 (JCc O h (fun h hb=>?_) (fun h hb=>?_)))))))))))))))))))
     ·
      refine Jr fun hK181=>(JLm (BL false) O (G5 (hK181 (Gq ?_))))
      obtain⟨y_,hy_,hl_⟩:=Y1b h
      exact⟨[BL false],[],G,O,⟨⟨_,O,.conv (.same O)⟩,G⟩,O,false,Eq.mpr (Option.some.inj hl_) (ho1_176 y_ hy_),O⟩
     ·
      refine Gr (e176 _ _ (i176++[q176]) () (ho2_176 _ (Option.some.inj h).symm) (Ga6 (List.getElem?_eq_some_iff.1 he176).1 hs176) ⟨⟨.same O,G⟩,⟨⟨_,O,.map⟩,⟨_,O,.iter O⟩,G⟩,O⟩)
    ·
     obtain⟨p_,h,hp⟩:=hi176.done ha176
     replace h:=app1 hkx176 h
     refine JLh (BL false) (H0 O O O) O (G5 (hK177 (Js fun hK182=>G26 O (Je (hK169 (Jr fun hK183=>(JLm (BL true) O (G5 (hK183 (Gq (⟨[BL true],[],G,O,⟨⟨_,O,.conv (.same O)⟩,G⟩,O,true,Eq.mpr (Option.some.inj h) hp,O⟩)))))))))))
theorem Qb8 (S_:(Gk)→Option Bool) (hS_:∀ s r,S_ s=some r→∃ p:Prop,Gf8 s (fun r_=>r_=r)=some p∧p) (s:Gk) (r:Bool) (h:S_ s=some r):Pure En 71 [.agg (Gk.cs s)] (·=BL r):=by
 obtain⟨p,h1,h2⟩:=hS_ s r h
 exact(Qb7 s _ p h1 h2).monoP (fun av hh=>by obtain⟨r_,rfl,ha⟩:=hh; exact ha)

def G49 (size:Int):Option (List Int):=
 bif decide (size=40) then
 (some [0])
 else
 (bif decide (size=20) then
  (some [1,2])
  else
  (some []))
theorem Hf8 (size:Int) (r:(List Int)) (h:G49 size=some r):Pure En 114 [U8 size] (·=Eb r):=by
 unfold G49 at h
 refine Gz [.tmp 2] Tryz.func114 O O (Jr fun hK1=>(JLh (Eb ([]:List Int)) (Hj 1 O O) O (G5 (hK1 (Js fun hK2=>Jr fun hK3=>(JLm (U8 size) O (G5 (hK3 (Gw (Jr fun hK4=>(JLh (BL (decide (size=40))) (Q0 O O O) O (JLm (BL (decide (size=40))) O (G5 (hK4 (JCc O h (fun h hb=>?_) (fun h hb=>?_))))))))))))))))
 ·
  refine Jr fun hK5=>(JLh (Eb [0]) (H8 (xs:=[U8 0]) O ⟨O,O,G⟩ Ga7 Q47 O O O O) O (JLm (Eb [0]) O (G5 (hK5 (Gq (fin1 (fun r:(List Int)=>(Eb r:AV)) h))))))
 ·
  refine Jr fun hK6=>(JLh (BL (decide (size=20))) (Q0 O O O) O (JLm (BL (decide (size=20))) O (G5 (hK6 (JCc O h (fun h hb=>?_) (fun h hb=>?_))))))
  ·
   refine Jr fun hK7=>(JLh (Eb [1,2]) (H8 (xs:=[U8 1,U8 2]) O ⟨O,O,O,O,G⟩ Ga7 Q47 O O O O) O (JLm (Eb [1,2]) O (G5 (hK7 (Gq (fin1 (fun r:(List Int)=>(Eb r:AV)) h))))))
  ·
   refine Gr (hK2 (Jr fun hK8=>(JLh (Eb ([]:List Int)) (Hj 1 O O) O (G5 (hK8 (Gq (fin1 (fun r:(List Int)=>(Eb r:AV)) h)))))))

def Gf7 (p1:Gk) (p2:Int) (ys_:List Slot):Option Unit:=
 each (fun y2 i2 (s2:Nat) nx2=>
  need (decide ((max y2.Tiers 0)≤9223372036854775807)) <|
  upto (fun i8 (s8:Nat) nx8=>
   bnd (G49 p2) fun r14=>
   each (fun y29 i29 (s29:Nat) nx29=>
    need (decide (ys_[s29]? = some (Slot.mk (i2:Int) (i8:Int) y29))) <|
    nx29 (s29+1))
   (fun(s29:Nat)=>
    nx8 s29) r14 0 s8)
  (fun(s8:Nat)=>
   nx2 s8) (max y2.Tiers 0).toNat 0 s2)
 (fun(s2:Nat)=>
  need (decide (s2=ys_.length)) (some ())) p1.Columns 0 0
theorem Jdf (p1:Gk) (p2:Int) (ys_:List Slot) (q_:Unit) (h:Gf7 p1 p2 ys_=some q_):Iter En 153 [.dptr (Gk.cs p1),.dptr [U8 p2]] (ys_.map (fun y:Slot=>[.agg [I64 y.G2,I64 y.Tier,U8 y.Half]])):=by
 unfold Gf7 at h
 refine Y2c Tryz.func153 O O ?_
 intro E hE hys
 refine Rh (fun K1 hK1=>Qi (J2 (u:=Ef p1) hE (G9 Hv O O O) ?_ O O O O))
 refine J2 (u:=E1 p1.Columns) hE (Gg J8 O O O) ?_ O O O O
 refine Qbd hE (f:=G2.av) (xs:=p1.Columns) Ht O O (fun hm11=>?_) O O O
 refine J2 (u:=I64 0) hE (G6 O O) ?_ O O O O
 refine Rf ?_
 refine hK1 _ _ _ (G43 ?_)
 obtain⟨b2,kx2,hb2,hkx2,h⟩:=Jx h
 refine Jba (fun i2 (s2:Nat)=>each b2 kx2 (List.drop i2 p1.Columns) i2 s2=some q_) (fun i2 s2=>[(0,.sc (.func (.yield E.lp) #[] #[])),(2,.dptr [U8 p2]),(10,E1 p1.Columns),(11,Em p1.Columns.length),(12,Em i2)]) (fun i2 s2=>[]) (fun i2 s2=>s2) (fun i2=>p1.Columns.length - i2) 0 0 h ⟨(.sm O O),G,rfl⟩ rfl ?_
 clear h
 intro i2 s2 hi2 K2 e2
 refine Rh (fun K3 hK3=>Qi (J2 (u:=BL (decide ((i2:Int) < (p1.Columns.length:Int)))) hE (Qh O O O) ?_ O O O O))
 refine Rf ?_
 refine hK3 _ _ _ (Rh (fun K4 hK4=>J47 O (fun hb=>?_) (fun hb=>?_)))
 ·
  have hk2:=Qr hb
  obtain⟨y2,nx2,hy2,hn2,h⟩:=J9 hi2 hk2
  replace h:=G14 hb2 h
  refine Gcc (hK4 _ _ _ (Rh (fun K5 hK5=>G43 (Rh (fun K6 hK6=>Qi (J2 (u:=Em i2) hE (G6 O O) ?_ O O O O))))))
  refine J2 (u:=Ei y2) hE (He (f:=G2.av) (xs:=p1.Columns) (y:=y2) O O O Ht hy2 O) ?_ O O O O
  refine J2 (u:=.agg (G2.cs y2)) hE (Gi G79 O O O) ?_ O O O O
  refine J2 (u:=.ptr 1191 0) hE (Ho 1191 12 G32 O O) ?_ O O O O
  refine J2 (u:=Em i2) hE (G7 O O) ?_ O O O O
  refine Y29 (u:=.junk) hE (Hc (u:=.agg (G2.cs y2)) (ds:=(G2.cs y2)) Hc4 O O O O O O O O) ?_ O O O
  refine Rf ?_
  refine hK6 _ _ _ (Rh (fun K7 hK7=>Qi (J2 (u:=.ptr 1191 3) hE (Hg H17 O O) ?_ O O O O)))
  refine J2 (u:=I64 y2.Tiers) hE (Hx Gc O O O O) ?_ O O O O
  refine J2 (u:=I64 (max y2.Tiers 0)) hE (Yfa O O O) ?_ O O O O
  refine J2 (u:=I64 0) hE (G6 O O) ?_ O O O O
  refine Rf ?_
  refine hK7 _ _ _ (G43 ?_)
  obtain⟨hx8,h⟩:=J7 h
  obtain⟨b8,kx8,hb8,hkx8,h⟩:=R17 h
  refine Jba (fun i8 (s8:Nat)=>upto b8 kx8 ((max y2.Tiers 0).toNat - i8) i8 s8=some q_) (fun i8 s8=>[(0,.sc (.func (.yield E.lp) #[] #[])),(2,.dptr [U8 p2]),(4,Em i2),(10,E1 p1.Columns),(11,Em p1.Columns.length),(12,Em i2),(19,I64 (max y2.Tiers 0)),(20,Em i8)]) (fun i8 s8=>[(1191,.box 58 (G2.cs y2))]) (fun i8 s8=>s8) (fun i8=>(max y2.Tiers 0).toNat - i8) 0 s2 h ⟨(.sm O O),⟨⟨_,rfl,.boxL rfl (.sm O O)⟩,G⟩,rfl⟩ rfl ?_
  clear h
  intro i8 s8 hi8 K8 e8
  refine Rh (fun K9 hK9=>Qi (J2 (u:=BL (decide ((i8:Int) < (max y2.Tiers 0)))) hE (Qh O O O) ?_ O O O O))
  refine Rf ?_
  refine hK9 _ _ _ (Rh (fun K10 hK10=>J47 O (fun hb=>?_) (fun hb=>?_)))
  ·
   have hk8:=Q8a hb
   obtain⟨nx8,hn8,h⟩:=Q42 hi8 hk8
   replace h:=Q9e hb8 h
   refine Gcc (hK10 _ _ _ (Rh (fun K11 hK11=>G43 (Rh (fun K12 hK12=>Qi (J2 (u:=Em i8) hE (G6 O O) ?_ O O O O))))))
   refine J2 (u:=Em i8) hE (G7 O O) ?_ O O O O
   refine Rf ?_
   refine hK12 _ _ _ (Rh (fun K13 hK13=>Qi (J2 (u:=U8 p2) hE (Gg Hm O O O) ?_ O O O O)))
   obtain⟨r14,hr14,h⟩:=Ga h
   refine J2 (u:=Eb r14) hE (Gs O (Hf8 p2 r14 hr14) Jfd ⟨O,O,G⟩) ?_ O O O O
   refine Qbd hE (f:=U8) (xs:=r14) Ga7 O O (fun hm25=>?_) O O O
   refine J2 (u:=I64 0) hE (G6 O O) ?_ O O O O
   refine Rf ?_
   refine hK13 _ _ _ (G43 ?_)
   obtain⟨b29,kx29,hb29,hkx29,h⟩:=Jx h
   refine Jba (fun i29 (s29:Nat)=>each b29 kx29 (List.drop i29 r14) i29 s29=some q_) (fun i29 s29=>[(0,.sc (.func (.yield E.lp) #[] #[])),(2,.dptr [U8 p2]),(4,Em i2),(6,Em i8),(10,E1 p1.Columns),(11,Em p1.Columns.length),(12,Em i2),(19,I64 (max y2.Tiers 0)),(20,Em i8),(24,Eb r14),(25,Em r14.length),(26,Em i29)]) (fun i29 s29=>[(1191,.box 58 (G2.cs y2))]) (fun i29 s29=>s29) (fun i29=>r14.length - i29) 0 s8 h ⟨(.sm O O),⟨⟨_,rfl,.boxL rfl (.sm O O)⟩,G⟩,rfl⟩ rfl ?_
   clear h
   intro i29 s29 hi29 K29 e29
   refine Rh (fun K30 hK30=>Qi (J2 (u:=BL (decide ((i29:Int) < (r14.length:Int)))) hE (Qh O O O) ?_ O O O O))
   refine Rf ?_
   refine hK30 _ _ _ (Rh (fun K31 hK31=>J47 O (fun hb=>?_) (fun hb=>?_)))
   ·
    have hk29:=Qr hb
    obtain⟨y29,nx29,hy29,hn29,h⟩:=J9 hi29 hk29
    replace h:=G14 hb29 h
    refine Gcc (hK31 _ _ _ (Rh (fun K32 hK32=>G43 (Rh (fun K33 hK33=>Qi (J2 (u:=.dptr [U8 y29]) hE (He (f:=U8) (xs:=r14) (y:=y29) O O O Ga7 hy29 O) ?_ O O O O))))))
    refine J2 (u:=U8 y29) hE (Gg Hm O O O) ?_ O O O O
    refine J2 (u:=U8 y29) hE (G7 O O) ?_ O O O O
    refine Rf ?_
    refine hK33 _ _ _ (Rh (fun K34 hK34=>Qi (J2 (u:=.sc (.func (.yield E.lp) #[] #[])) hE (G6 O O) ?_ O O O O)))
    refine J2 (u:=Em i2) hE (G6 O O) ?_ O O O O
    refine J2 (u:=Em i8) hE (G6 O O) ?_ O O O O
    refine J2 (u:=U8 y29) hE (G6 O O) ?_ O O O O
    refine J2 (u:=.agg [Em i2,Em i8,U8 y29]) hE (Hb (cs:=[Em i2,Em i8,U8 y29]) [(0,1),(1,1),(2,1)] [I64 0,I64 0,U8 0] [E0,E0,.int .u8 0] Ga8 Gce ⟨.inl O,.inl O,.inl O,G⟩ O O) ?_ O O O O
    obtain⟨ha35,h⟩:=J7 h
    refine Hbd (us:=[.agg [Em i2,Em i8,U8 y29]]) hE O O ⟨O,O,G⟩ (Ra2 (f:=(fun y:Slot=>[.agg [I64 y.G2,I64 y.Tier,U8 y.Half]])) (x:=(Slot.mk (i2:Int) (i8:Int) y29)) hys ha35) ?_ O O O
    refine J2 (u:=BL false) hE (Qx (b:=true) O O) ?_ O O O O
    refine Rf ?_
    refine hK34 _ _ _ (H37 O (Gcc (hK32 _ _ _ (Qi (J2 (u:=I64 ((i29+1:Nat):Int)) hE (Jf (J6 hk29 hm25) O O O) ?_ O O O O)))))
    refine J2 (u:=I64 ((i29+1:Nat):Int)) hE (G6 O O) ?_ O O O O
    refine Rf ?_
    exact e29 _ _ (i29+1) (s29+1) _ (app1 hn29 h) (by omega) ⟨(.sm O O),⟨⟨_,rfl,.boxL rfl (.sm O O)⟩,G⟩,rfl⟩ rfl
   ·
    have h:=app1 hkx29 (Ja hi29 (Hs hb))
    refine Hf0 (hK11 _ _ _ (Qi (J2 (u:=I64 ((i8+1:Nat):Int)) hE (Jf (J6 hk8 (Jc6 hx8)) O O O) ?_ O O O O)))
    refine J2 (u:=I64 ((i8+1:Nat):Int)) hE (G6 O O) ?_ O O O O
    refine Rf ?_
    exact e8 _ _ (i8+1) s29 _ (app1 hn8 h) (by omega) ⟨(.sm O O),⟨⟨_,rfl,.boxL rfl (.sm O O)⟩,G⟩,rfl⟩ rfl
  ·
   have h:=app1 hkx8 (Q43 hi8 (Hda hb))
   refine Hf0 (hK5 _ _ _ (Qi (J2 (u:=I64 ((i2+1:Nat):Int)) hE (Jf (J6 hk2 hm11) O O O) ?_ O O O O)))
   refine J2 (u:=I64 ((i2+1:Nat):Int)) hE (G6 O O) ?_ O O O O
   refine Rf ?_
   exact e2 _ _ (i2+1) s8 _ (app1 hn2 h) (by omega) ⟨(.sm O O),G,rfl⟩ rfl
 ·
  have h:=app1 hkx2 (Ja hi2 (Hs hb))
  refine Hf0 (Y06 (J7 h).1)
theorem Je0 (S_:(Gk)→(Int)→Option (List Slot)) (hS_:∀ p1 p2 r,S_ p1 p2=some r→Gf7 p1 p2 r=some ()) (p1:Gk) (p2:Int) (r:List Slot) (h:S_ p1 p2=some r):Iter En 153 [.dptr (Gk.cs p1),.dptr [U8 p2]] (r.map (fun y:Slot=>[.agg [I64 y.G2,I64 y.Tier,U8 y.Half]])):=Jdf p1 p2 r () (hS_ p1 p2 r h)
end
end Go.Proofs.YtidpfkmbfgihlaaGreat
