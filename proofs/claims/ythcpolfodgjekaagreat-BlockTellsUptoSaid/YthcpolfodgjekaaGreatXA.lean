/-
 Models of functions of the program,and that they return what the models say.
-/
import Derived.Test.YthcpolfodgjekaaGreatSortLay
import Derived.Test.YthcpolfodgjekaaGreatLent
set_option maxRecDepth 100000
set_option maxHeartbeats 1000000
set_option linter.unusedVariables false
set_option linter.unusedSimpArgs false
namespace Go.Proofs.YthcpolfodgjekaaGreat
open Go.RowKit
noncomputable section
abbrev Ej:=Tryz.prog
structure Hp where
 n:Int
 low:Int
 high:Int
 deriving DecidableEq,Inhabited
def Hp.cs (x:Hp):List AV:=[G0 x.n,G0 x.low,G0 x.high]
def Hp.av (x:Hp):AV:=.agg x.cs
structure G4 where
 Bay:Int
 Row:Int
 Deck:Bool
 Tiers:Int
 Height:Int
 Kilos20:Int
 Kilos40:Int
 Lash:Int
 Plugs:List Int
 X:Int
 Y:Int
 Z:Int
 deriving DecidableEq,Inhabited
def G4.cs (x:G4):List AV:=[G0 x.Bay,G0 x.Row,BL x.Deck,G0 x.Tiers,G0 x.Height,G0 x.Kilos20,G0 x.Kilos40,G0 x.Lash,E1 x.Plugs,G0 x.X,G0 x.Y,G0 x.Z]
def G4.av (x:G4):AV:=.agg x.cs
abbrev Ed (x:G4):AV:=.dptr (G4.cs x)
abbrev E4:=LS 12 G4.av
structure G9 where
 Bay:Int
 Rows:List Int
 deriving DecidableEq,Inhabited
def G9.cs (x:G9):List AV:=[G0 x.Bay,E1 x.Rows]
def G9.av (x:G9):AV:=.agg x.cs
abbrev E5:=LS 2 G9.av
structure Light where
 Kilos:Int
 X:Int
 Y:Int
 Z:Int
 deriving DecidableEq,Inhabited
def Light.cs (x:Light):List AV:=[G0 x.Kilos,G0 x.X,G0 x.Y,G0 x.Z]
def Light.av (x:Light):AV:=.agg x.cs
structure Row where
 Draught:Int
 Kilos:Int
 Buoy:Int
 Metacentre:Int
 Hd8:Int
 deriving DecidableEq,Inhabited
def Row.cs (x:Row):List AV:=[G0 x.Draught,G0 x.Kilos,G0 x.Buoy,G0 x.Metacentre,G0 x.Hd8]
def Row.av (x:Row):AV:=.agg x.cs
abbrev E7:=LS 5 Row.av
structure Frame where
 X:Int
 Light:Int
 Share:Int
 Shear:Int
 Bend:Int
 deriving DecidableEq,Inhabited
def Frame.cs (x:Frame):List AV:=[G0 x.X,G0 x.Light,G0 x.Share,G0 x.Shear,G0 x.Bend]
def Frame.av (x:Frame):AV:=.agg x.cs
abbrev E6:=LS 5 Frame.av
structure Gh where
 Kilos:Int
 X:Int
 Y:Int
 Z:Int
 Surface:Int
 Steps:List Int
 deriving DecidableEq,Inhabited
def Gh.cs (x:Gh):List AV:=[G0 x.Kilos,G0 x.X,G0 x.Y,G0 x.Z,G0 x.Surface,E1 x.Steps]
def Gh.av (x:Gh):AV:=.agg x.cs
abbrev Eh (x:Gh):AV:=.dptr (Gh.cs x)
abbrev E8:=LS 6 Gh.av
structure G2 where
 Tolerance:Int
 Trim:Int
 List_:Int
 Stability:Int
 deriving DecidableEq,Inhabited
def G2.cs (x:G2):List AV:=[G0 x.Tolerance,G0 x.Trim,G0 x.List_,G0 x.Stability]
def G2.av (x:G2):AV:=.agg x.cs
structure H2 where
 Columns:List G4
 Covers:List G9
 Light:Light
 Rows:List Row
 Frames:List Frame
 Tanks:List Gh
 G2:G2
 deriving DecidableEq,Inhabited
def H2.cs (x:H2):List AV:=[E4 x.Columns,E5 x.Covers,G0 x.Light.Kilos,G0 x.Light.X,G0 x.Light.Y,G0 x.Light.Z,E7 x.Rows,E6 x.Frames,E8 x.Tanks,G0 x.G2.Tolerance,G0 x.G2.Trim,G0 x.G2.List_,G0 x.G2.Stability]
def H2.av (x:H2):AV:=.agg x.cs
abbrev Eb (x:H2):AV:=.dptr (H2.cs x)
structure Hf where
 e0:Int
 e1:Int
 e2:Int
 deriving DecidableEq,Inhabited
def Hf.cs (x:Hf):List AV:=[G0 x.e0,G0 x.e1,G0 x.e2]
def Hf.av (x:Hf):AV:=.agg x.cs
def Hf.ks (x:Hf):List Value:=[.int .i64 x.e0,.int .i64 x.e1,.int .i64 x.e2]
def Hf.kv (x:Hf):Value:=.agg x.ks.toArray
structure Slot where
 G4:Int
 Tier:Int
 Half:Int
 deriving DecidableEq,Inhabited
def Slot.cs (x:Slot):List AV:=[G0 x.G4,G0 x.Tier,U8 x.Half]
def Slot.av (x:Slot):AV:=.agg x.cs
abbrev Eg (x:Slot):AV:=.dptr (Slot.cs x)
abbrev E9:=LS 3 Slot.av
namespace XAF
theorem tq_155 (a b:Hf):H73 Ej 4 155 [.int .i64 a.e0,.int .i64 a.e1,.int .i64 a.e2] [.int .i64 b.e0,.int .i64 b.e1,.int .i64 b.e2]=some (decide (a=b)):=by
 refine(show _=some ((a.e0==b.e0)&&((a.e1==b.e1)&&((a.e2==b.e2)&&true))) by kernel_rfl).trans (congrArg some ?_)
 rw [Bool.eq_iff_iff]
 simp only [Bool.and_eq_true,beq_iff_eq,decide_eq_true_eq,Bool.and_true]
 constructor
 ·intro h; obtain⟨_,_,_⟩:=a; obtain⟨_,_,_⟩:=b; simp_all
 ·intro h; subst h; simp
theorem Qb7:Gd8 Ej 196 3=true:=by kernel_rfl
theorem Rq:Gd8 Ej 64 12=true:=by kernel_rfl
theorem Ye:Gd8 Ej 66 2=true:=by kernel_rfl
theorem Je3:arrB Ej 155 3 1=true:=by kernel_rfl
theorem Q6e:Ha Ej 113=true:=by kernel_rfl
theorem J91:Ha Ej 115=true:=by kernel_rfl
theorem J88:Ha Ej 157=true:=by kernel_rfl
theorem Hb8:Qd Ej 196 0 0=true:=by kernel_rfl
theorem Jcb:Qd Ej 196 1 1=true:=by kernel_rfl
theorem Jca:Qd Ej 196 2 2=true:=by kernel_rfl
theorem Hj:Qd Ej 32 0 0=true:=by kernel_rfl
theorem Jk:Qd Ej 32 1 1=true:=by kernel_rfl
theorem G0f:Qd Ej 64 0 0=true:=by kernel_rfl
theorem G0e:Qd Ej 64 1 1=true:=by kernel_rfl
theorem Gc8:Qd Ej 64 10 10=true:=by kernel_rfl
theorem Gc7:Qd Ej 64 11 11=true:=by kernel_rfl
theorem Yw:Qd Ej 64 2 2=true:=by kernel_rfl
theorem Zm:Qd Ej 64 3 3=true:=by kernel_rfl
theorem G2d:Qd Ej 64 4 4=true:=by kernel_rfl
theorem Ged:Qd Ej 64 5 5=true:=by kernel_rfl
theorem Gec:Qd Ej 64 6 6=true:=by kernel_rfl
theorem Geb:Qd Ej 64 7 7=true:=by kernel_rfl
theorem R9:Qd Ej 64 8 8=true:=by kernel_rfl
theorem Gea:Qd Ej 64 9 9=true:=by kernel_rfl
theorem Zk:Qd Ej 66 0 0=true:=by kernel_rfl
theorem Q8:Qd Ej 66 1 1=true:=by kernel_rfl
theorem Gb6:Gcb Ej 154 155 3=true:=by kernel_rfl
theorem Jg:Ej.follows .mixedOrders=true:=by kernel_rfl
theorem Yv:placesOf Ej 196=some [(0,1),(1,1),(2,1)]:=by kernel_rfl
theorem G91:placesOf Ej 71=some [(0,1),(1,1),(2,1)]:=by kernel_rfl
theorem Ht:Yf Ej 22=true:=by kernel_rfl
theorem Q4:Yf Ej 23=true:=by kernel_rfl
theorem Gc:Yf Ej 3=true:=by kernel_rfl
theorem Ra:Yf Ej 4=true:=by kernel_rfl
theorem Hy:Yf Ej 40=true:=by kernel_rfl
theorem Jd:Yf Ej 5=true:=by kernel_rfl
theorem Q4b:Ys Ej 196 3=true:=by kernel_rfl
theorem Gb5:Ys Ej 64 12=true:=by kernel_rfl
theorem Gb4:Ys Ej 66 2=true:=by kernel_rfl
theorem G8f:sliceB Ej 158 5 1=true:=by kernel_rfl
theorem H0b:sliceB Ej 194 196 3=true:=by kernel_rfl
theorem H5:sliceB Ej 22 64 12=true:=by kernel_rfl
theorem Hr:sliceB Ej 23 66 2=true:=by kernel_rfl
theorem Gq:sliceB Ej 40 3 1=true:=by kernel_rfl
theorem J83:(Ej.info? 155).bind (fun i=>i.zero.map Value.cells)=some (List.toArray [E0,E0,E0]):=by kernel_rfl
theorem G14:(Ej.info? 196).bind (fun i=>i.zero.map Value.cells)=some (List.toArray [E0,E0,E0]):=by kernel_rfl
theorem Gda:(Ej.info? 71).bind (fun i=>i.zero.map Value.cells)=some (List.toArray [E0,E0,.int .u8 0]):=by kernel_rfl
theorem H84:Zj Ej 196 3=true:=by kernel_rfl
theorem Jc6:Zj Ej 5 1=true:=by kernel_rfl
theorem G66:Zj Ej 64 12=true:=by kernel_rfl
theorem G65:Zj Ej 66 2=true:=by kernel_rfl
theorem H83:(Ej.info? 3).bind (·.zero)=some E0:=by kernel_rfl
theorem J60:H54 Ej 155 Hf.kv:=H54.of_eq Hf.ks (by kernel_rfl) (fun a b h=>by simp only [Hf.ks,List.cons.injEq,Value.int.injEq,Value.bool.injEq,Value.string.injEq,true_and,and_true] at h; obtain⟨_,_,_⟩:=a; obtain⟨_,_,_⟩:=b; simp_all) 4 (by decide) (fun a b=>tq_155 a b) (fun a=>by kernel_rfl) (fun a=>by simp [Instr.sameBits,Hf.ks])
end XAF
open XAF

def G62 (l:List Hp):Option Bool:=
 each (fun y18 i18 (s18:Unit) nx18=>
  bif ((decide (y18.n < y18.low))||(decide (y18.high < y18.n))) then
  (some false)
  else
  (nx18 ()))
 (fun(s18:Unit)=>
  some true) l 0 ()
theorem H7d (l:List Hp) (r:Bool) (h:G62 l=some r):Pure Ej 157 [LS 3 Hp.av l] (·=BL r):=by
 unfold G62 at h
 refine Gx [.tmp 2] Tryz.func157 O O (Jr fun hK1=>(G57 (BL false) O (G8 (hK1 (Js fun hK2=>Jr fun hK3=>(G57 (LS 3 Hp.av l) O (JLl H0b O O O fun hm6=>(G57 (G0 0) O (G8 (hK3 (Gp ?_)))))))))))
 obtain⟨b18,kx18,hb18,hkx18,h⟩:=Hx h
 refine He (fun i18 (s18:Unit)=>each b18 kx18 (List.drop i18 l) i18 s18=some r) (fun i18 s18=>[(5,LS 3 Hp.av l),(6,Ei l.length),(7,Ei i18)]) (fun i18 s18=>[]) (fun i18=>l.length - i18) 0 () h ⟨(.sm O O),G,O⟩ ?_
 clear h
 intro i18 s18 hi18 K18 e18
 refine Jr fun hK19=>(JLh (BL (decide ((i18:Int) < (l.length:Int)))) (J1 O O O) O (G8 (hK19 (Js fun hK20=>Gm O (fun hb=>?_) (fun hb=>?_)))))
 ·
  have hk18:=Jc hb
  obtain⟨y18,nx18,hy18,hn18,h⟩:=Hm hi18 hk18
  replace h:=Rn hb18 h
  refine Gn (hK20 (Js fun hK21=>Gp (Jr fun hK22=>(JLh (.dptr [G0 y18.n,G0 y18.low,G0 y18.high]) (Gw (f:=Hp.av) (xs:=l) (y:=y18) O O O H0b hy18 O) O (JLh (.agg [G0 y18.n,G0 y18.low,G0 y18.high]) (Gj Qb7 O O O) O (JLh (.ptr 1187 0) (Ju 1187 3 H84 O O) O (Jf (u:=.junk) (J2 (u:=.agg [G0 y18.n,G0 y18.low,G0 y18.high]) (ds:=[G0 y18.n,G0 y18.low,G0 y18.high]) Q4b O O O O O O O O) (G8 (hK22 (Gu [(4,.dptr [G0 y18.n,G0 y18.low,G0 y18.high]),(5,LS 3 Hp.av l),(6,Ei l.length),(7,Ei i18)] [] 1187 rfl rfl rfl G rfl (by repeat' (first | exact .ptr | constructor)) ?_))))))))))
  refine Jr fun hK23=>(JLh (.dptr [G0 y18.n,G0 y18.low,G0 y18.high]) (Ga Hb8 O O O) O (JLh (G0 y18.n) (Gf Gc O O O) O (JLh (.dptr [G0 y18.low,G0 y18.high]) (Ga Jcb O O O) O (JLh (G0 y18.low) (Gf Gc O O O) O (JLh (BL (decide (y18.n < y18.low))) (J1 O O O) O (G57 (BL (decide (y18.n < y18.low))) O (JLo (.dptr [G0 y18.n,G0 y18.low,G0 y18.high]) [] O .scf G (fun hc=>Ga Hb8 O O O) O (JLo (G0 y18.n) [17] O .scf ⟨Ua,G⟩ (fun hc=>Gf Gc O O O) O (JLo (.dptr [G0 y18.high]) [] O .scf G (fun hc=>Ga Jca O O O) O (JLo (G0 y18.high) [19] O .scf ⟨Ua,G⟩ (fun hc=>Gf Gc O O O) O (JLo (BL (decide (y18.high < y18.n))) [18,20] O .scf ⟨Ua,Ua,G⟩ (fun hc=>G3d O O O) O (JLh (BL ((decide (y18.n < y18.low))||(decide (y18.high < y18.n)))) (Yc O O O O) O (G8 (hK23 ?_))))))))))))))
  refine JCc O h ?_ ?_<;>intro h hb
  ·
   refine Jr fun hK24=>(G57 (BL false) O (G8 (hK24 (Gr (fin1 BL h)))))
  ·
   refine Gn (hK21 (G3 (JLh (G0 ((i18+1:Nat):Int)) (Hu (Hc hk18 hm6) O O O) O (G57 (G0 ((i18+1:Nat):Int)) O (G8 (e18 _ _ (i18+1) () (app1 hn18 h) (by omega) ⟨(.sm O O),G,rfl⟩))))))
 ·
  have h:=app1 hkx18 (Hn hi18 (H6 hb))
  refine Hk (hK2 (Jr fun hK25=>(G57 (BL true) O (G8 (hK25 (Gr (fin1 BL h)))))))

def G99 (c:G4):Option Bool:=
 each (fun y27 i27 (s27:Unit) nx27=>
  wrp (c.Tiers - 1) fun v33=>
  bnd (G62 [(Hp.mk y27 0 v33)]) fun r34=>
  bnd (bif ((!(!r34))&&(decide (0 < (i27:Int)))) then some (IntKind.i64.wrap ((i27:Int) - 1)) else some 0) fun v35=>
  bnd (bif ((!(!r34))&&(decide (0 < (i27:Int)))) then Qr c.Plugs v35 some else some default) fun y36=>
  bif ((!r34)||((decide (0 < (i27:Int)))&&(decide (y27≤y36)))) then
  (some false)
  else
  (nx27 ()))
 (fun(s27:Unit)=>
  bnd (G62 [(Hp.mk c.Bay 0 39),(Hp.mk c.Row 0 30),(Hp.mk c.Tiers 1 10),(Hp.mk c.Height 0 40000),(Hp.mk c.Kilos20 0 500000000),(Hp.mk c.Kilos40 0 500000000),(Hp.mk c.Lash 0 1000000000000),(Hp.mk c.X (-500000) 500000),(Hp.mk c.Y (-500000) 500000),(Hp.mk c.Z (-500000) 500000)]) fun r39=>
  some r39) c.Plugs 0 ()
abbrev Ek (c:G4):List AV:=[G0 c.Tiers,G0 c.Height,G0 c.Kilos20,G0 c.Kilos40,G0 c.Lash,E1 c.Plugs,G0 c.X,G0 c.Y,G0 c.Z]
theorem Q10 (c:G4) (r:Bool) (h:G99 c=some r):Pure Ej 113 [.agg (G4.cs c)] (·=BL r):=by
 unfold G99 at h
 refine Gx [.tmp 2] Tryz.func113 O O (Jr fun hK1=>(JLh (.ptr 1163 0) (Ja (cs:=(G4.cs c)) 1163 O O O O O) O (G57 (BL false) O (G8 (hK1 (Gu [(1,Ed c)] [] 1163 rfl rfl rfl G rfl (by exact⟨.ptr,G⟩) (Jr fun hK2=>(G57 (.fn 157 []) O (G8 (hK2 (Js fun hK3=>Jr fun hK4=>(JLh (.dptr [E1 c.Plugs,G0 c.X,G0 c.Y,G0 c.Z]) (Ga R9 O O O) O (JLh (E1 c.Plugs) (Gf Hy O O O) O (JLl Gq O O O fun hm8=>(G57 (G0 0) O (G8 (hK4 (Gp ?_))))))))))))))))))
 obtain⟨b27,kx27,hb27,hkx27,h⟩:=Hx h
 refine He (fun i27 (s27:Unit)=>each b27 kx27 (List.drop i27 c.Plugs) i27 s27=some r) (fun i27 s27=>[(1,Ed c),(3,.fn 157 []),(7,E1 c.Plugs),(8,Ei c.Plugs.length),(9,Ei i27)]) (fun i27 s27=>[]) (fun i27=>c.Plugs.length - i27) 0 () h ⟨(.sm O O),G,rfl⟩ ?_
 clear h
 intro i27 s27 hi27 K27 e27
 refine Jr fun hK28=>(JLh (BL (decide ((i27:Int) < (c.Plugs.length:Int)))) (J1 O O O) O (G8 (hK28 (Js fun hK29=>Gm O (fun hb=>?_) (fun hb=>?_)))))
 ·
  have hk27:=Jc hb
  obtain⟨y27,nx27,hy27,hn27,h⟩:=Hm hi27 hk27
  replace h:=Rn hb27 h
  refine Gn (hK29 (Js fun hK30=>Gp (Jr fun hK31=>(G57 (Ei i27) O (JLh (.dptr [G0 y27]) (Gw (f:=G0) (xs:=c.Plugs) (y:=y27) O O O Gq hy27 O) O (JLh (G0 y27) (Gf Gc O O O) O (G57 (Ei i27) O (G57 (G0 y27) O (G8 (hK31 (Jr fun hK32=>(G57 (.fn 157 []) O (G57 (G0 y27) O (JLh (.dptr (Ek c)) (Ga Zm O O O) O (JLh (G0 c.Tiers) (Gf Gc O O O) O ?_)))))))))))))))
  obtain⟨v33,hv33,h⟩:=wrp_out h
  refine JLh (G0 v33) (Gd4 hv33 O O O) O (JLh (.agg [G0 y27,G0 0,G0 v33]) (Jj (cs:=[G0 y27,G0 0,G0 v33]) [(0,1),(1,1),(2,1)] [G0 0,G0 0,G0 0] [E0,E0,E0] Yv G14 ⟨.inl O,.inl O,.inl O,G⟩ O O) O (JLh (LS 3 Hp.av [(Hp.mk y27 0 v33)]) (Hd (xs:=[.agg [G0 y27,G0 0,G0 v33]]) O ⟨O,O,G⟩ H0b H84 O O O O) O ?_))
  obtain⟨r34,hr34,h⟩:=Ge h
  refine JLh (BL r34) (G8d (args:=[LS 3 Hp.av [(Hp.mk y27 0 v33)]]) (caps:=[]) O O (H7d [(Hp.mk y27 0 v33)] r34 hr34) J88 ⟨O,O,G⟩ O) O (JLh (BL (!r34)) (Qh (b:=r34) O O) O (G57 (BL (!r34)) O (JLo (Ei i27) [] O .scf G (fun hc=>G5 O O) O (JLo (BL (decide (0 < (i27:Int)))) [24] O .scf ⟨Ua,G⟩ (fun hc=>G3d O O O) O (JLo (BL (decide (0 < (i27:Int)))) [25] O .scf ⟨Ua,G⟩ (fun hc=>G5 O O) O (JLo (G0 y27) [] O .optt G (fun hc=>G5 O O) O (JLo (.dptr [E1 c.Plugs,G0 c.X,G0 c.Y,G0 c.Z]) [] O .optt G (fun hc=>Ga R9 O O O) O (JLo (E1 c.Plugs) [28] O .optt ⟨Ua,G⟩ (fun hc=>Gf Hy O O O) O (JLo (Ei i27) [] O .optt G (fun hc=>G5 O O) O ?_)))))))))
  obtain⟨v35,hv35,h⟩:=Ge h
  refine JLo (G0 v35) [30] O .optt ⟨Ua,G⟩ (fun hc=>Gd4 (Option.some.inj (Gy hc hv35)) O O O) O ?_
  obtain⟨y36,hy36,h⟩:=Ge h
  refine JLo (.dptr [G0 y36]) [29,31] O .optt ⟨Ua,Ua,G⟩ (fun hc=>(match Qa (Gy hc hy36) with | ⟨_,hm_,hy_⟩=>Gw (f:=G0) (xs:=c.Plugs) (y:=y36) O O O Gq hy_ hm_)) O (JLo (G0 y36) [32] O .optt ⟨Ua,G⟩ (fun hc=>Gf Gc O O O) O (JLo (BL (decide (y27≤y36))) [27,33] O .optt ⟨Ua,Ua,G⟩ (fun hc=>He6 O O O) O (Gb (u:=BL ((decide (0 < (i27:Int)))&&(decide (y27≤y36)))) [(26,BL (decide (0 < (i27:Int)))),(34,_)] O O O .scf ⟨.all id,.part,G⟩ (fun hc=>J5 O O O O) ?_)))
  refine JLh (BL ((!r34)||((decide (0 < (i27:Int)))&&(decide (y27≤y36))))) (Yc O O O O) O (G8 (hK32 (JCc O h (fun h hb=>?_) (fun h hb=>?_))))
  ·
   refine Jr fun hK37=>(G57 (BL false) O (G8 (hK37 (Gr (fin1 BL h)))))
  ·
   refine Gn (hK30 (G3 (JLh (G0 ((i27+1:Nat):Int)) (Hu (Hc hk27 hm8) O O O) O (G57 (G0 ((i27+1:Nat):Int)) O (G8 (e27 _ _ (i27+1) () (app1 hn27 h) (by omega) ⟨(.sm O O),G,rfl⟩))))))
 ·
  have h:=app1 hkx27 (Hn hi27 (H6 hb))
  refine Hk (hK3 ?_)
  refine Jr fun hK38=>(G57 (.fn 157 []) O (JLh (Ed c) (Ga G0f O O O) O (JLh (G0 c.Bay) (Gf Gc O O O) O (JLh (.agg [G0 c.Bay,G0 0,G0 39]) (Jj (cs:=[G0 c.Bay,G0 0,G0 39]) [(0,1),(1,1),(2,1)] [G0 0,G0 0,G0 0] [E0,E0,E0] Yv G14 ⟨.inl O,.inl O,.inl O,G⟩ O O) O (JLh (.dptr [G0 c.Row,BL c.Deck,G0 c.Tiers,G0 c.Height,G0 c.Kilos20,G0 c.Kilos40,G0 c.Lash,E1 c.Plugs,G0 c.X,G0 c.Y,G0 c.Z]) (Ga G0e O O O) O (JLh (G0 c.Row) (Gf Gc O O O) O (JLh (.agg [G0 c.Row,G0 0,G0 30]) (Jj (cs:=[G0 c.Row,G0 0,G0 30]) [(0,1),(1,1),(2,1)] [G0 0,G0 0,G0 0] [E0,E0,E0] Yv G14 ⟨.inl O,.inl O,.inl O,G⟩ O O) O (JLh (.dptr (Ek c)) (Ga Zm O O O) O (JLh (G0 c.Tiers) (Gf Gc O O O) O (JLh (.agg [G0 c.Tiers,G0 1,G0 10]) (Jj (cs:=[G0 c.Tiers,G0 1,G0 10]) [(0,1),(1,1),(2,1)] [G0 0,G0 0,G0 0] [E0,E0,E0] Yv G14 ⟨.inl O,.inl O,.inl O,G⟩ O O) O (JLh (.dptr [G0 c.Height,G0 c.Kilos20,G0 c.Kilos40,G0 c.Lash,E1 c.Plugs,G0 c.X,G0 c.Y,G0 c.Z]) (Ga G2d O O O) O (JLh (G0 c.Height) (Gf Gc O O O) O (JLh (.agg [G0 c.Height,G0 0,G0 40000]) (Jj (cs:=[G0 c.Height,G0 0,G0 40000]) [(0,1),(1,1),(2,1)] [G0 0,G0 0,G0 0] [E0,E0,E0] Yv G14 ⟨.inl O,.inl O,.inl O,G⟩ O O) O ?_)))))))))))))
  refine JLh (.dptr [G0 c.Kilos20,G0 c.Kilos40,G0 c.Lash,E1 c.Plugs,G0 c.X,G0 c.Y,G0 c.Z]) (Ga Ged O O O) O (JLh (G0 c.Kilos20) (Gf Gc O O O) O (JLh (.agg [G0 c.Kilos20,G0 0,G0 500000000]) (Jj (cs:=[G0 c.Kilos20,G0 0,G0 500000000]) [(0,1),(1,1),(2,1)] [G0 0,G0 0,G0 0] [E0,E0,E0] Yv G14 ⟨.inl O,.inl O,.inl O,G⟩ O O) O (JLh (.dptr [G0 c.Kilos40,G0 c.Lash,E1 c.Plugs,G0 c.X,G0 c.Y,G0 c.Z]) (Ga Gec O O O) O (JLh (G0 c.Kilos40) (Gf Gc O O O) O (JLh (.agg [G0 c.Kilos40,G0 0,G0 500000000]) (Jj (cs:=[G0 c.Kilos40,G0 0,G0 500000000]) [(0,1),(1,1),(2,1)] [G0 0,G0 0,G0 0] [E0,E0,E0] Yv G14 ⟨.inl O,.inl O,.inl O,G⟩ O O) O (JLh (.dptr [G0 c.Lash,E1 c.Plugs,G0 c.X,G0 c.Y,G0 c.Z]) (Ga Geb O O O) O (JLh (G0 c.Lash) (Gf Gc O O O) O (JLh (.agg [G0 c.Lash,G0 0,G0 1000000000000]) (Jj (cs:=[G0 c.Lash,G0 0,G0 1000000000000]) [(0,1),(1,1),(2,1)] [G0 0,G0 0,G0 0] [E0,E0,E0] Yv G14 ⟨.inl O,.inl O,.inl O,G⟩ O O) O (JLh (.dptr [G0 c.X,G0 c.Y,G0 c.Z]) (Ga Gea O O O) O (JLh (G0 c.X) (Gf Gc O O O) O (JLh (.agg [G0 c.X,G0 (-500000),G0 500000]) (Jj (cs:=[G0 c.X,G0 (-500000),G0 500000]) [(0,1),(1,1),(2,1)] [G0 0,G0 0,G0 0] [E0,E0,E0] Yv G14 ⟨.inl O,.inl O,.inl O,G⟩ O O) O (JLh (.dptr [G0 c.Y,G0 c.Z]) (Ga Gc8 O O O) O (JLh (G0 c.Y) (Gf Gc O O O) O ?_)))))))))))))
  refine JLh (.agg [G0 c.Y,G0 (-500000),G0 500000]) (Jj (cs:=[G0 c.Y,G0 (-500000),G0 500000]) [(0,1),(1,1),(2,1)] [G0 0,G0 0,G0 0] [E0,E0,E0] Yv G14 ⟨.inl O,.inl O,.inl O,G⟩ O O) O (JLh (.dptr [G0 c.Z]) (Ga Gc7 O O O) O (JLh (G0 c.Z) (Gf Gc O O O) O (JLh (.agg [G0 c.Z,G0 (-500000),G0 500000]) (Jj (cs:=[G0 c.Z,G0 (-500000),G0 500000]) [(0,1),(1,1),(2,1)] [G0 0,G0 0,G0 0] [E0,E0,E0] Yv G14 ⟨.inl O,.inl O,.inl O,G⟩ O O) O (JLh (LS 3 Hp.av [(Hp.mk c.Bay 0 39),(Hp.mk c.Row 0 30),(Hp.mk c.Tiers 1 10),(Hp.mk c.Height 0 40000),(Hp.mk c.Kilos20 0 500000000),(Hp.mk c.Kilos40 0 500000000),(Hp.mk c.Lash 0 1000000000000),(Hp.mk c.X (-500000) 500000),(Hp.mk c.Y (-500000) 500000),(Hp.mk c.Z (-500000) 500000)]) (Hd (xs:=[.agg [G0 c.Bay,G0 0,G0 39],.agg [G0 c.Row,G0 0,G0 30],.agg [G0 c.Tiers,G0 1,G0 10],.agg [G0 c.Height,G0 0,G0 40000],.agg [G0 c.Kilos20,G0 0,G0 500000000],.agg [G0 c.Kilos40,G0 0,G0 500000000],.agg [G0 c.Lash,G0 0,G0 1000000000000],.agg [G0 c.X,G0 (-500000),G0 500000],.agg [G0 c.Y,G0 (-500000),G0 500000],.agg [G0 c.Z,G0 (-500000),G0 500000]]) O ⟨O,O,O,O,O,O,O,O,O,O,O,O,O,O,O,O,O,O,O,O,G⟩ H0b H84 O O O O) O ?_))))
  obtain⟨r39,hr39,h⟩:=Ge h
  refine JLh (BL r39) (G8d (args:=[LS 3 Hp.av [(Hp.mk c.Bay 0 39),(Hp.mk c.Row 0 30),(Hp.mk c.Tiers 1 10),(Hp.mk c.Height 0 40000),(Hp.mk c.Kilos20 0 500000000),(Hp.mk c.Kilos40 0 500000000),(Hp.mk c.Lash 0 1000000000000),(Hp.mk c.X (-500000) 500000),(Hp.mk c.Y (-500000) 500000),(Hp.mk c.Z (-500000) 500000)]]) (caps:=[]) O O (H7d [(Hp.mk c.Bay 0 39),(Hp.mk c.Row 0 30),(Hp.mk c.Tiers 1 10),(Hp.mk c.Height 0 40000),(Hp.mk c.Kilos20 0 500000000),(Hp.mk c.Kilos40 0 500000000),(Hp.mk c.Lash 0 1000000000000),(Hp.mk c.X (-500000) 500000),(Hp.mk c.Y (-500000) 500000),(Hp.mk c.Z (-500000) 500000)] r39 hr39) J88 ⟨O,O,G⟩ O) O (G57 (BL r39) O (G8 (hK38 (Gr (fin1 BL h)))))

def Gd1 (s:H2) (Rp:Bool→Prop):Option Prop:=
 bif (((decide ((s.Columns.length:Int) < 1))||(decide (200 < (s.Columns.length:Int))))||(decide (40 < (s.Covers.length:Int)))) then
 (some (Rp false))
 else
 (each (fun y68 i68 (s68:(Ho Hf Int)) nx68=>
   jp (fun kj74=>
    bif y68.Deck then
    (kj74 1)
    else
    (kj74 0)) fun(j74:Int)=>
   bnd (some (Ho.get s68 (Hf.mk y68.Bay y68.Row j74) 0)) fun v77=>
   G35 (v77+1) fun v78=>
   bnd (G99 y68) fun r80=>
   bif (!r80) then
   (some (Rp false))
   else
   (nx68 (Ho.put s68 (Hf.mk y68.Bay y68.Row j74) v78)))
  (fun(s68:(Ho Hf Int))=>
   each (fun y84 i84 (s84:(Ho Hf Int)) nx84=>
    bif (((decide (y84.Bay < 0))||(decide (40≤y84.Bay)))||(decide ((y84.Rows.length:Int)=0))) then
    (some (Rp false))
    else
    (each (fun y157 i157 (s157:(Ho Hf Int)) nx157=>
      bnd (bif ((!((decide (y157 < 0))||(decide (30 < y157))))&&(decide (0 < (i157:Int)))) then G35 ((i157:Int) - 1) some else some 0) fun v164=>
      bnd (bif ((!((decide (y157 < 0))||(decide (30 < y157))))&&(decide (0 < (i157:Int)))) then Qr y84.Rows v164 some else some default) fun y165=>
      bif (((decide (y157 < 0))||(decide (30 < y157)))||((decide (0 < (i157:Int)))&&(decide (y157≤y165)))) then
      (some (Rp false))
      else
      (bnd (some (Ho.get s157 (Hf.mk y84.Bay y157 2) 0)) fun v167=>
       G35 (v167+1) fun v168=>
       nx157 (Ho.put s157 (Hf.mk y84.Bay y157 2) v168)))
     (fun(s157:(Ho Hf Int))=>
      nx84 s157) y84.Rows 0 s84))
   (fun(s84:(Ho Hf Int))=>
    Jff (fun(x176:Hf×Int) (s176:Unit) nx176=>
     bif decide (1 < x176.2) then
     (lft (some (Rp false)))
     else
     (nx176 ()))
    (fun(s176:Unit)=>
     some (Rp true)) (Ho.l s84) ()) s.Covers 0 s68) s.Columns 0 (Ho.empty:Ho Hf Int))
def H1b (s:H2):Option Bool:=
 bif (((decide ((s.Columns.length:Int) < 1))||(decide (200 < (s.Columns.length:Int))))||(decide (40 < (s.Covers.length:Int)))) then
 (some (id false))
 else
 (each (fun y68 i68 (s68:(Ho Hf Int)) nx68=>
   jp (fun kj74=>
    bif y68.Deck then
    (kj74 1)
    else
    (kj74 0)) fun(j74:Int)=>
   bnd (some (Ho.get s68 (Hf.mk y68.Bay y68.Row j74) 0)) fun v77=>
   G35 (v77+1) fun v78=>
   bnd (G99 y68) fun r80=>
   bif (!r80) then
   (some (id false))
   else
   (nx68 (Ho.put s68 (Hf.mk y68.Bay y68.Row j74) v78)))
  (fun(s68:(Ho Hf Int))=>
   each (fun y84 i84 (s84:(Ho Hf Int)) nx84=>
    bif (((decide (y84.Bay < 0))||(decide (40≤y84.Bay)))||(decide ((y84.Rows.length:Int)=0))) then
    (some (id false))
    else
    (each (fun y157 i157 (s157:(Ho Hf Int)) nx157=>
      bnd (bif ((!((decide (y157 < 0))||(decide (30 < y157))))&&(decide (0 < (i157:Int)))) then G35 ((i157:Int) - 1) some else some 0) fun v164=>
      bnd (bif ((!((decide (y157 < 0))||(decide (30 < y157))))&&(decide (0 < (i157:Int)))) then Qr y84.Rows v164 some else some default) fun y165=>
      bif (((decide (y157 < 0))||(decide (30 < y157)))||((decide (0 < (i157:Int)))&&(decide (y157≤y165)))) then
      (some (id false))
      else
      (bnd (some (Ho.get s157 (Hf.mk y84.Bay y157 2) 0)) fun v167=>
       G35 (v167+1) fun v168=>
       nx157 (Ho.put s157 (Hf.mk y84.Bay y157 2) v168)))
     (fun(s157:(Ho Hf Int))=>
      nx84 s157) y84.Rows 0 s84))
   (fun(s84:(Ho Hf Int))=>
    J22 (fun(x176:Hf×Int) (s176:Unit) nx176=>
     bif decide (1 < x176.2) then
     (lft (some (id false)))
     else
     (nx176 ()))
    (fun(s176:Unit)=>
     some (id true)) (Ho.l s84) ()) s.Covers 0 s68) s.Columns 0 (Ho.empty:Ho Hf Int))
abbrev Em (s:H2):List AV:=[E5 s.Covers,G0 s.Light.Kilos,G0 s.Light.X,G0 s.Light.Y,G0 s.Light.Z,E7 s.Rows,E6 s.Frames,E8 s.Tanks,G0 s.G2.Tolerance,G0 s.G2.Trim,G0 s.G2.List_,G0 s.G2.Stability]
theorem Q12 (s:H2) (Rp:Bool→Prop) (p:Prop) (h:Gd1 s Rp=some p) (hp:p):Pure Ej 63 [.agg (H2.cs s)] (fun av=>∃ r,Rp r∧av=BL r):=by
 unfold Gd1 at h
 refine Gx [.tmp 2] Tryz.func63 O O (Jr fun hK1=>(JLh (.ptr 1098 0) (Ja (cs:=(H2.cs s)) 1098 O O O O O) O (G57 (BL false) O (G8 (hK1 (Gu [(1,Eb s)] [] 1098 rfl rfl rfl G rfl (by exact⟨.ptr,G⟩) (Js fun hK2=>?_)))))))
 refine Jr fun hK3=>(JLh (Eb s) (Ga Hj O O O) O (JLh (E4 s.Columns) (Gf Ht O O O) O (JLl H5 O O O fun hm15=>(JLh (BL (decide ((s.Columns.length:Int) < 1))) (J1 O O O) O (G57 (BL (decide ((s.Columns.length:Int) < 1))) O (JLo (Eb s) [] O .scf G (fun hc=>Ga Hj O O O) O (JLo (E4 s.Columns) [18] O .scf ⟨Ua,G⟩ (fun hc=>Gf Ht O O O) O (JLo (Ei s.Columns.length) [19] O .scf ⟨Ua,G⟩ (fun hc=>Qw (f:=G4.av) (xs:=s.Columns) H5 O O) O (JLo (BL (decide (200 < (s.Columns.length:Int)))) [20] O .scf ⟨Ua,G⟩ (fun hc=>G3d O O O) O (JLh (BL ((decide ((s.Columns.length:Int) < 1))||(decide (200 < (s.Columns.length:Int))))) (Yc O O O O) O (G57 (BL ((decide ((s.Columns.length:Int) < 1))||(decide (200 < (s.Columns.length:Int))))) O (JLo (.dptr (Em s)) [] O .scf G (fun hc=>Ga Jk O O O) O (JLo (E5 s.Covers) [24] O .scf ⟨Ua,G⟩ (fun hc=>Gf Q4 O O O) O ?_)))))))))))))
 refine JLo (Ei s.Covers.length) [25] O .scf ⟨Ua,G⟩ (fun hc=>Qw (f:=G9.av) (xs:=s.Covers) Hr O O) O (JLo (BL (decide (40 < (s.Covers.length:Int)))) [26] O .scf ⟨Ua,G⟩ (fun hc=>G3d O O O) O (JLh (BL (((decide ((s.Columns.length:Int) < 1))||(decide (200 < (s.Columns.length:Int))))||(decide (40 < (s.Covers.length:Int))))) (Yc O O O O) O (G8 (hK3 (JCc O h (fun h hb=>?_) (fun h hb=>?_))))))
 ·
  refine Jr fun hK4=>(G57 (BL false) O (G8 (hK4 (Gr (⟨[BL false],[],G,O,⟨⟨_,O,.conv (.same O)⟩,G⟩,O,false,Eq.mpr (Option.some.inj h) hp,O⟩)))))
 ·
  refine Gn (hK2 (Jr fun hK5=>(JLh (.mp 1101) (J30 1101 Hf.kv G0 O O) O (G57 (.mp 1101) O (G8 (hK5 (Js fun hK6=>Jr fun hK7=>(JLh (Eb s) (Ga Hj O O O) O (JLh (E4 s.Columns) (Gf Ht O O O) O (JLl H5 O O O fun hm32=>(G57 (G0 0) O (G8 (hK7 (Gp ?_))))))))))))))
  obtain⟨b68,kx68,hb68,hkx68,h⟩:=Hx h
  refine He (fun i68 (s68:(Ho Hf Int))=>each b68 kx68 (List.drop i68 s.Columns) i68 s68=some p) (fun i68 s68=>[(1,Eb s),(3,.mp 1101),(31,E4 s.Columns),(32,Ei s.Columns.length),(33,Ei i68)]) (fun i68 s68=>[(1101,MP 154 Hf.kv G0 s68)]) (fun i68=>s.Columns.length - i68) 0 (Ho.empty:Ho Hf Int) h ⟨(.sm O O),⟨⟨_,rfl,.map⟩,G⟩,rfl⟩ ?_
  clear h
  intro i68 s68 hi68 K68 e68
  refine Jr fun hK69=>(JLh (BL (decide ((i68:Int) < (s.Columns.length:Int)))) (J1 O O O) O (G8 (hK69 (Js fun hK70=>Gm O (fun hb=>?_) (fun hb=>?_)))))
  ·
   have hk68:=Jc hb
   obtain⟨y68,nx68,hy68,hn68,h⟩:=Hm hi68 hk68
   replace h:=Rn hb68 h
   refine Gn (hK70 (Js fun hK71=>Gp (Jr fun hK72=>(JLh (Ed y68) (Gw (f:=G4.av) (xs:=s.Columns) (y:=y68) O O O H5 hy68 O) O (JLh (.agg (G4.cs y68)) (Gj Rq O O O) O (JLh (.ptr 1099 0) (Ju 1099 12 G66 O O) O (Jf (u:=.junk) (J2 (u:=.agg (G4.cs y68)) (ds:=(G4.cs y68)) Gb5 O O O O O O O O) (G8 (hK72 ?_)))))))))
   refine Gu [(1,Eb s),(3,.mp 1101),(5,Ed y68),(31,E4 s.Columns),(32,Ei s.Columns.length),(33,Ei i68)] [(1101,MP 154 Hf.kv G0 s68)] 1099 rfl rfl rfl ⟨⟨_,rfl,.map⟩,G⟩ rfl (by repeat' (first | exact .ptr | constructor)) (Jr fun hK73=>(G57 (G0 0) O (G8 (hK73 ?_))))
   obtain⟨kj74,hkj74,h⟩:=G37 h
   refine Zy (fun j74:Int=>kj74 j74=some p) (fun j74=>[(1,Eb s),(3,.mp 1101),(5,Ed y68),(6,G0 j74),(31,E4 s.Columns),(32,Ei s.Columns.length),(33,Ei i68)]) (fun j74=>[(1101,MP 154 Hf.kv G0 s68)]) (fun Kj74 ej74=>?_) ?_
   ·
    refine Jr fun hK75=>(JLh (.dptr ((G4.cs y68).drop 2)) (Ga Yw O O O) O (JLh (BL y68.Deck) (Gf Ra O O O) O (G8 (hK75 (JCc O h (fun h hb=>?_) (fun h hb=>?_))))))
    ·
     refine G3 (G57 (G0 1) O (G8 (ej74 _ _ 1 h ⟨(.sm O O),⟨⟨_,rfl,.map⟩,G⟩,rfl⟩)))
    ·
     refine Gn (ej74 _ _ 0 h ⟨(.sm O O),⟨⟨_,rfl,.map⟩,G⟩,rfl⟩)
   ·intro j74 h
    replace h:=app1 hkj74 h
    refine Js fun hK76=>G2a (l':=[(1,Eb s),(3,.mp 1101),(5,Ed y68),(6,G0 j74),(31,E4 s.Columns),(32,Ei s.Columns.length),(33,Ei i68)]) (L':=[(1101,MP 154 Hf.kv G0 s68)]) ⟨(.sm O O),⟨⟨_,rfl,.map⟩,G⟩,rfl⟩ ?_
    obtain⟨v77,hv77,h⟩:=Ge h
    obtain⟨v78,hv78,h⟩:=Qj h
    refine Ji [9,11] [0,0,0,0,0,0,0,0,0,0,1,0] [0,0,0,0,0,0,0,1,1,0,1,0] [[(1101,MP 154 Hf.kv G0 s68)],((1101,MI 154 Hf.kv G0 s68 (Hf.mk y68.Bay y68.Row j74) 0)::[(1101,MP 154 Hf.kv G0 s68)]),((1101,MP 154 Hf.kv G0 (Ho.put s68 (Hf.mk y68.Bay y68.Row j74) v78))::((1101,MI 154 Hf.kv G0 s68 (Hf.mk y68.Bay y68.Row j74) 0)::[(1101,MP 154 Hf.kv G0 s68)]))] Jg (by kernel_rfl) rfl rfl ?_
    refine Gd (u:=.mp 1101) O O ⟨Gv (G5 O O) O,G⟩ (Gd (u:=Ed y68) O O ⟨Gv (Ga G0f O O O) O,G⟩ (Gd (u:=G0 y68.Bay) O O ⟨Gv (Gf Gc O O O) O,G⟩ (Gd (u:=.dptr ((G4.cs y68).drop 1)) O O ⟨Gv (Ga G0e O O O) O,G⟩ (Gd (u:=G0 y68.Row) O O ⟨Gv (Gf Gc O O O) O,G⟩ (Gd (u:=G0 j74) O O ⟨Gv (G5 O O) O,G⟩ (Gd (u:=.agg [G0 y68.Bay,G0 y68.Row,G0 j74]) O O ⟨Gv (J32 (cs:=[G0 y68.Bay,G0 y68.Row,G0 j74]) [E0,E0,E0] Je3 J83 O O) O,G⟩ (Gd (u:=G0 v77) O O ⟨Gv (((Option.some.inj hv77) ▸ J31 (av:=G0) (m:=s68) (a:=(Hf.mk y68.Bay y68.Row j74)) 0 E0 O O O O J60 Gb6 H83 O)) O,Gv (((Option.some.inj hv77) ▸ Q26 (av:=G0) (m:=s68) (a:=(Hf.mk y68.Bay y68.Row j74)) 0 E0 O O O O J60 Gb6 H83 O)) O,G⟩ (Gd (u:=G0 v78) O O ⟨Gv (Hu hv78 O O O) O,Gv (Hu hv78 O O O) O,G⟩ (D_w (u:=.tup [.junk,G0 (G47 (Ho.l s68) (Hf.mk y68.Bay y68.Row j74):Int)]) O O O O (Gv (Jad (m:=s68) (a:=(Hf.mk y68.Bay y68.Row j74)) 0 E0 O O O O J60 Gb6 H83 O) O) (Gd (u:=G0 (G47 (Ho.l s68) (Hf.mk y68.Bay y68.Row j74):Int)) O O ⟨Gv (H9 O O O) O,G⟩ (D_w0 (u:=.junk) O O O O (Gv (J0c (m:=s68) (a:=(Hf.mk y68.Bay y68.Row j74)) (v:=v78) 0 O O O O O O) O) (Rm ?_))))))))))))
    refine hK76 (Jr fun hK79=>(JLh (.agg (G4.cs y68)) (Gj Rq O O O) O ?_))
    obtain⟨r80,hr80,h⟩:=Ge h
    refine JLh (BL r80) (Gk O (Q10 y68 r80 hr80) Q6e ⟨O,O,G⟩) O (JLh (BL (!r80)) (Qh (b:=r80) O O) O (G8 (hK79 (JCc O h (fun h hb=>?_) (fun h hb=>?_)))))
    ·
     refine Jr fun hK81=>(G57 (BL false) O (G8 (hK81 (Gr (⟨[BL false],[],G,O,⟨⟨_,O,.conv (.same O)⟩,G⟩,O,false,Eq.mpr (Option.some.inj h) hp,O⟩)))))
    ·
     refine Gn (hK71 (G3 (JLh (G0 ((i68+1:Nat):Int)) (Hu (Hc hk68 hm32) O O O) O (G57 (G0 ((i68+1:Nat):Int)) O (G8 (e68 _ _ (i68+1) (Ho.put s68 (Hf.mk y68.Bay y68.Row j74) v78) (app1 hn68 h) (by omega) ⟨(.sm O O),⟨⟨_,rfl,.map⟩,G⟩,rfl⟩))))))
  ·
   have h:=app1 hkx68 (Hn hi68 (H6 hb))
   refine Hk (hK6 (Js fun hK82=>Jr fun hK83=>(JLh (.dptr (Em s)) (Ga Jk O O O) O (JLh (E5 s.Covers) (Gf Q4 O O O) O (JLl Hr O O O fun hm56=>(G57 (G0 0) O (G8 (hK83 (Gp ?_)))))))))
   obtain⟨b84,kx84,hb84,hkx84,h⟩:=Hx h
   refine He (fun i84 (s84:(Ho Hf Int))=>each b84 kx84 (List.drop i84 s.Covers) i84 s84=some p) (fun i84 s84=>[(3,.mp 1101),(55,E5 s.Covers),(56,Ei s.Covers.length),(57,Ei i84)]) (fun i84 s84=>[(1101,MP 154 Hf.kv G0 s84)]) (fun i84=>s.Covers.length - i84) 0 s68 h ⟨(.sm O O),⟨⟨_,rfl,.map⟩,G⟩,rfl⟩ ?_
   clear h
   intro i84 s84 hi84 K84 e84
   refine Jr fun hK85=>(JLh (BL (decide ((i84:Int) < (s.Covers.length:Int)))) (J1 O O O) O (G8 (hK85 (Js fun hK86=>Gm O (fun hb=>?_) (fun hb=>?_)))))
   ·
    have hk84:=Jc hb
    obtain⟨y84,nx84,hy84,hn84,h⟩:=Hm hi84 hk84
    replace h:=Rn hb84 h
    refine Gn (hK86 (Js fun hK87=>Gp (Jr fun hK88=>(JLh (.dptr [G0 y84.Bay,E1 y84.Rows]) (Gw (f:=G9.av) (xs:=s.Covers) (y:=y84) O O O Hr hy84 O) O (JLh (.agg [G0 y84.Bay,E1 y84.Rows]) (Gj Ye O O O) O (JLh (.ptr 1100 0) (Ju 1100 2 G65 O O) O (Jf (u:=.junk) (J2 (u:=.agg [G0 y84.Bay,E1 y84.Rows]) (ds:=[G0 y84.Bay,E1 y84.Rows]) Gb4 O O O O O O O O) (G8 (hK88 (Gu [(3,.mp 1101),(8,.dptr [G0 y84.Bay,E1 y84.Rows]),(55,E5 s.Covers),(56,Ei s.Covers.length),(57,Ei i84)] [(1101,MP 154 Hf.kv G0 s84)] 1100 rfl rfl rfl ⟨⟨_,rfl,.map⟩,G⟩ rfl (by repeat' (first | exact .ptr | constructor)) (Js fun hK89=>?_)))))))))))
    refine Jr fun hK90=>(JLh (.dptr [G0 y84.Bay,E1 y84.Rows]) (Ga Zk O O O) O (JLh (G0 y84.Bay) (Gf Gc O O O) O (JLh (BL (decide (y84.Bay < 0))) (J1 O O O) O (G57 (BL (decide (y84.Bay < 0))) O (JLo (.dptr [G0 y84.Bay,E1 y84.Rows]) [] O .scf G (fun hc=>Ga Zk O O O) O (JLo (G0 y84.Bay) [65] O .scf ⟨Ua,G⟩ (fun hc=>Gf Gc O O O) O (JLo (BL (decide (40≤y84.Bay))) [66] O .scf ⟨Ua,G⟩ (fun hc=>G31 O O O) O (JLh (BL ((decide (y84.Bay < 0))||(decide (40≤y84.Bay)))) (Yc O O O O) O (G57 (BL ((decide (y84.Bay < 0))||(decide (40≤y84.Bay)))) O (JLo (.dptr [E1 y84.Rows]) [] O .scf G (fun hc=>Ga Q8 O O O) O (JLo (E1 y84.Rows) [70] O .scf ⟨Ua,G⟩ (fun hc=>Gf Hy O O O) O (JLo (Ei y84.Rows.length) [71] O .scf ⟨Ua,G⟩ (fun hc=>Qw (f:=G0) (xs:=y84.Rows) Gq O O) O (JLo (BL (decide ((y84.Rows.length:Int)=0))) [72] O .scf ⟨Ua,G⟩ (fun hc=>Jx O O O) O ?_)))))))))))))
    refine JLh (BL (((decide (y84.Bay < 0))||(decide (40≤y84.Bay)))||(decide ((y84.Rows.length:Int)=0)))) (Yc O O O O) O (G8 (hK90 (JCc O h (fun h hb=>?_) (fun h hb=>?_))))
    ·
     refine Jr fun hK91=>(G57 (BL false) O (G8 (hK91 (Gr (⟨[BL false],[],G,O,⟨⟨_,O,.conv (.same O)⟩,G⟩,O,false,Eq.mpr (Option.some.inj h) hp,O⟩)))))
    ·
     refine Gn (hK89 (Jr fun hK92=>(JLh (.dptr [E1 y84.Rows]) (Ga Q8 O O O) O (JLh (E1 y84.Rows) (Gf Hy O O O) O (JLl Gq O O O fun hm77=>(G57 (G0 0) O (G8 (hK92 (Gp ?_)))))))))
     obtain⟨b157,kx157,hb157,hkx157,h⟩:=Hx h
     refine He (fun i157 (s157:(Ho Hf Int))=>each b157 kx157 (List.drop i157 y84.Rows) i157 s157=some p) (fun i157 s157=>[(3,.mp 1101),(8,.dptr [G0 y84.Bay,E1 y84.Rows]),(55,E5 s.Covers),(56,Ei s.Covers.length),(57,Ei i84),(76,E1 y84.Rows),(77,Ei y84.Rows.length),(78,Ei i157)]) (fun i157 s157=>[(1101,MP 154 Hf.kv G0 s157)]) (fun i157=>y84.Rows.length - i157) 0 s84 h ⟨(.sm O O),⟨⟨_,rfl,.map⟩,G⟩,rfl⟩ ?_
     clear h
     intro i157 s157 hi157 K157 e157
     refine Jr fun hK158=>(JLh (BL (decide ((i157:Int) < (y84.Rows.length:Int)))) (J1 O O O) O (G8 (hK158 (Js fun hK159=>Gm O (fun hb=>?_) (fun hb=>?_)))))
     ·
      have hk157:=Jc hb
      obtain⟨y157,nx157,hy157,hn157,h⟩:=Hm hi157 hk157
      replace h:=Rn hb157 h
      refine Gn (hK159 (Js fun hK160=>Gp (Jr fun hK161=>(G57 (Ei i157) O (JLh (.dptr [G0 y157]) (Gw (f:=G0) (xs:=y84.Rows) (y:=y157) O O O Gq hy157 O) O (JLh (G0 y157) (Gf Gc O O O) O (G57 (Ei i157) O (G57 (G0 y157) O (G8 (hK161 (Js fun hK162=>?_)))))))))))
      refine Jr fun hK163=>(G57 (G0 y157) O (JLh (BL (decide (y157 < 0))) (J1 O O O) O (G57 (BL (decide (y157 < 0))) O (JLo (G0 y157) [] O .scf G (fun hc=>G5 O O) O (JLo (BL (decide (30 < y157))) [86] O .scf ⟨Ua,G⟩ (fun hc=>G3d O O O) O (JLh (BL ((decide (y157 < 0))||(decide (30 < y157)))) (Yc O O O O) O (G57 (BL ((decide (y157 < 0))||(decide (30 < y157)))) O (JLo (Ei i157) [] O .scf G (fun hc=>G5 O O) O (JLo (BL (decide (0 < (i157:Int)))) [90] O .scf ⟨Ua,G⟩ (fun hc=>G3d O O O) O (JLo (BL (decide (0 < (i157:Int)))) [91] O .scf ⟨Ua,G⟩ (fun hc=>G5 O O) O (JLo (G0 y157) [] O .optt G (fun hc=>G5 O O) O (JLo (.dptr [E1 y84.Rows]) [] O .optt G (fun hc=>Ga Q8 O O O) O (JLo (E1 y84.Rows) [94] O .optt ⟨Ua,G⟩ (fun hc=>Gf Hy O O O) O ?_)))))))))))))
      refine JLo (Ei i157) [] O .optt G (fun hc=>G5 O O) O ?_
      obtain⟨v164,hv164,h⟩:=Ge h
      refine JLo (G0 v164) [96] O .optt ⟨Ua,G⟩ (fun hc=>Gd4 (G25 (Gy hc hv164)) O O O) O ?_
      obtain⟨y165,hy165,h⟩:=Ge h
      refine JLo (.dptr [G0 y165]) [95,97] O .optt ⟨Ua,Ua,G⟩ (fun hc=>(match Qa (Gy hc hy165) with | ⟨_,hm_,hy_⟩=>Gw (f:=G0) (xs:=y84.Rows) (y:=y165) O O O Gq hy_ hm_)) O (JLo (G0 y165) [98] O .optt ⟨Ua,G⟩ (fun hc=>Gf Gc O O O) O (JLo (BL (decide (y157≤y165))) [93,99] O .optt ⟨Ua,Ua,G⟩ (fun hc=>He6 O O O) O (Gb (u:=BL ((decide (0 < (i157:Int)))&&(decide (y157≤y165)))) [(92,BL (decide (0 < (i157:Int)))),(100,_)] O O O .scf ⟨.all id,.part,G⟩ (fun hc=>J5 O O O O) ?_)))
      refine JLh (BL (((decide (y157 < 0))||(decide (30 < y157)))||((decide (0 < (i157:Int)))&&(decide (y157≤y165))))) (Yc O O O O) O (G8 (hK163 (JCc O h (fun h hb=>?_) (fun h hb=>?_))))
      ·
       refine Jr fun hK166=>(G57 (BL false) O (G8 (hK166 (Gr (⟨[BL false],[],G,O,⟨⟨_,O,.conv (.same O)⟩,G⟩,O,false,Eq.mpr (Option.some.inj h) hp,O⟩)))))
      ·
       refine Gn (hK162 (G2a (l':=[(3,.mp 1101),(8,.dptr [G0 y84.Bay,E1 y84.Rows]),(10,G0 y157),(55,E5 s.Covers),(56,Ei s.Covers.length),(57,Ei i84),(76,E1 y84.Rows),(77,Ei y84.Rows.length),(78,Ei i157)]) (L':=[(1101,MP 154 Hf.kv G0 s157)]) ⟨(.sm O O),⟨⟨_,rfl,.map⟩,G⟩,rfl⟩ ?_))
       obtain⟨v167,hv167,h⟩:=Ge h
       obtain⟨v168,hv168,h⟩:=Qj h
       refine Ji [7,9] [0,0,0,0,0,0,0,0,1,0] [0,0,0,0,0,1,1,0,1,0] [[(1101,MP 154 Hf.kv G0 s157)],((1101,MI 154 Hf.kv G0 s157 (Hf.mk y84.Bay y157 2) 0)::[(1101,MP 154 Hf.kv G0 s157)]),((1101,MP 154 Hf.kv G0 (Ho.put s157 (Hf.mk y84.Bay y157 2) v168))::((1101,MI 154 Hf.kv G0 s157 (Hf.mk y84.Bay y157 2) 0)::[(1101,MP 154 Hf.kv G0 s157)]))] Jg (by kernel_rfl) rfl rfl ?_
       refine Gd (u:=.mp 1101) O O ⟨Gv (G5 O O) O,G⟩ (Gd (u:=.dptr [G0 y84.Bay,E1 y84.Rows]) O O ⟨Gv (Ga Zk O O O) O,G⟩ (Gd (u:=G0 y84.Bay) O O ⟨Gv (Gf Gc O O O) O,G⟩ (Gd (u:=G0 y157) O O ⟨Gv (G5 O O) O,G⟩ (Gd (u:=.agg [G0 y84.Bay,G0 y157,G0 2]) O O ⟨Gv (J32 (cs:=[G0 y84.Bay,G0 y157,G0 2]) [E0,E0,E0] Je3 J83 O O) O,G⟩ (Gd (u:=G0 v167) O O ⟨Gv (((Option.some.inj hv167) ▸ J31 (av:=G0) (m:=s157) (a:=(Hf.mk y84.Bay y157 2)) 0 E0 O O O O J60 Gb6 H83 O)) O,Gv (((Option.some.inj hv167) ▸ Q26 (av:=G0) (m:=s157) (a:=(Hf.mk y84.Bay y157 2)) 0 E0 O O O O J60 Gb6 H83 O)) O,G⟩ (Gd (u:=G0 v168) O O ⟨Gv (Hu hv168 O O O) O,Gv (Hu hv168 O O O) O,G⟩ (D_w (u:=.tup [.junk,G0 (G47 (Ho.l s157) (Hf.mk y84.Bay y157 2):Int)]) O O O O (Gv (Jad (m:=s157) (a:=(Hf.mk y84.Bay y157 2)) 0 E0 O O O O J60 Gb6 H83 O) O) (Gd (u:=G0 (G47 (Ho.l s157) (Hf.mk y84.Bay y157 2):Int)) O O ⟨Gv (H9 O O O) O,G⟩ (D_w0 (u:=.junk) O O O O (Gv (J0c (m:=s157) (a:=(Hf.mk y84.Bay y157 2)) (v:=v168) 0 O O O O O O) O) (Rm ?_))))))))))
       refine hK160 (G3 (JLh (G0 ((i157+1:Nat):Int)) (Hu (Hc hk157 hm77) O O O) O (G57 (G0 ((i157+1:Nat):Int)) O (G8 (e157 _ _ (i157+1) (Ho.put s157 (Hf.mk y84.Bay y157 2) v168) (app1 hn157 h) (by omega) ⟨(.sm O O),⟨⟨_,rfl,.map⟩,G⟩,rfl⟩)))))
     ·
      have h:=app1 hkx157 (Hn hi157 (H6 hb))
      refine Hk (hK87 (G3 (JLh (G0 ((i84+1:Nat):Int)) (Hu (Hc hk84 hm56) O O O) O (G57 (G0 ((i84+1:Nat):Int)) O (G8 (e84 _ _ (i84+1) s157 (app1 hn84 h) (by omega) ⟨(.sm O O),⟨⟨_,rfl,.map⟩,G⟩,rfl⟩))))))
   ·
    have h:=app1 hkx84 (Hn hi84 (H6 hb))
    refine Hk (hK82 (Js fun hK169=>Jr fun hK170=>(G57 (.mp 1101) O (JLh (.it 1102) (Q24 1102 (m:=s84) O O O O Gb6) O (G8 (hK170 (Gp ?_)))))))
    obtain⟨b176,kx176,hb176,hkx176,h⟩:=Jfe h
    refine Q1d (Ho.size s84) (fun i176 (s176:Unit)=>MInv b176 kx176 (Ho.l s84) i176 s176) (fun i176 s176=>[(115,.it 1102)]) (fun i176 s176=>[(1101,MP 154 Hf.kv G0 s84),(1102,.iter 1101 (Ho.size s84) i176)]) () (MInv.start h hp) ⟨⟨.same O,G⟩,⟨⟨_,O,.map⟩,⟨_,O,.iter O⟩,G⟩,O⟩ ?_
    clear h hp
    intro i176 s176 hi176 K176 e176
    refine Jr fun hK177=>H61 O O O (Q43 (m:=s84) O O O O) ?_
    intro u_ L_ hn_
    rcases hn_ with ⟨q176,x176,he176,hs176,rfl,rfl⟩ | ⟨ha176,rfl,rfl⟩
    ·
     obtain⟨o176,h,ho1_176,ho2_176⟩:=hi176.step he176 hs176
     replace h:=Hfc hb176 h
     refine JLh (BL true) (H9 O O O) O (G8 (hK177 (Js fun hK178=>Q1e O (Gn (hK178 (Gp (Jr fun hK179=>(JLh (.tup [.agg (Hf.cs x176.1),G0 x176.2]) (Q29 (kv:=Hf.kv) (av:=G0) (m:=s84) (q:=q176) (seen:=i176) (e:=x176) O O O O he176) O (JLh (G0 x176.2) (H9 O O O) O (G57 (G0 x176.2) O (G8 (hK179 (Jr fun hK180=>(G57 (G0 x176.2) O (JLh (BL (decide (1 < x176.2))) (G3d O O O) O (G8 (hK180 (JCc O h (fun h hb=>?_) (fun h hb=>?_)))))))))))))))))))
     ·
      refine Jr fun hK181=>(G57 (BL false) O (G8 (hK181 (Gr ?_))))
      obtain⟨y_,hy_,hl_⟩:=lft_out h
      exact⟨[BL false],[],G,O,⟨⟨_,O,.conv (.same O)⟩,G⟩,O,false,Eq.mpr (Option.some.inj hl_) (ho1_176 y_ hy_),O⟩
     ·
      refine Gn (e176 _ _ (i176++[q176]) () (ho2_176 _ (Option.some.inj h).symm) (J5f (List.getElem?_eq_some_iff.1 he176).1 hs176) ⟨⟨.same O,G⟩,⟨⟨_,O,.map⟩,⟨_,O,.iter O⟩,G⟩,O⟩)
    ·
     obtain⟨p_,h,hp⟩:=hi176.done ha176
     replace h:=app1 hkx176 h
     refine JLh (BL false) (H9 O O O) O (G8 (hK177 (Js fun hK182=>Q1f O (Hk (hK169 (Jr fun hK183=>(G57 (BL true) O (G8 (hK183 (Gr (⟨[BL true],[],G,O,⟨⟨_,O,.conv (.same O)⟩,G⟩,O,true,Eq.mpr (Option.some.inj h) hp,O⟩)))))))))))
theorem Q13 (S_:(H2)→Option Bool) (hS_:∀ s r,S_ s=some r→∃ p:Prop,Gd1 s (fun r_=>r_=r)=some p∧p) (s:H2) (r:Bool) (h:S_ s=some r):Pure Ej 63 [.agg (H2.cs s)] (·=BL r):=by
 obtain⟨p,h1,h2⟩:=hS_ s r h
 exact(Q12 s _ p h1 h2).monoP (fun av hh=>by obtain⟨r_,rfl,ha⟩:=hh; exact ha)

def G55 (size:Int):Option (List Int):=
 bif decide (size=40) then
 (some [0])
 else
 (bif decide (size=20) then
  (some [1,2])
  else
  (some []))
theorem Haf (size:Int) (r:(List Int)) (h:G55 size=some r):Pure Ej 115 [U8 size] (·=Ea r):=by
 unfold G55 at h
 refine Gx [.tmp 2] Tryz.func115 O O (Jr fun hK1=>(JLh (Ea ([]:List Int)) (Hb 1 O O) O (G8 (hK1 (Js fun hK2=>Jr fun hK3=>(G57 (U8 size) O (G8 (hK3 (Gp (Jr fun hK4=>(JLh (BL (decide (size=40))) (Jx O O O) O (G57 (BL (decide (size=40))) O (G8 (hK4 (JCc O h (fun h hb=>?_) (fun h hb=>?_))))))))))))))))
 ·
  refine Jr fun hK5=>(JLh (Ea [0]) (Hd (xs:=[U8 0]) O ⟨O,O,G⟩ G8f Jc6 O O O O) O (G57 (Ea [0]) O (G8 (hK5 (Gr (fin1 (fun r:(List Int)=>(Ea r:AV)) h))))))
 ·
  refine Jr fun hK6=>(JLh (BL (decide (size=20))) (Jx O O O) O (G57 (BL (decide (size=20))) O (G8 (hK6 (JCc O h (fun h hb=>?_) (fun h hb=>?_))))))
  ·
   refine Jr fun hK7=>(JLh (Ea [1,2]) (Hd (xs:=[U8 1,U8 2]) O ⟨O,O,O,O,G⟩ G8f Jc6 O O O O) O (G57 (Ea [1,2]) O (G8 (hK7 (Gr (fin1 (fun r:(List Int)=>(Ea r:AV)) h))))))
  ·
   refine Gn (hK2 (Jr fun hK8=>(JLh (Ea ([]:List Int)) (Hb 1 O O) O (G8 (hK8 (Gr (fin1 (fun r:(List Int)=>(Ea r:AV)) h)))))))

def Gd0 (p1:H2) (p2:Int) (ys_:List Slot):Option Unit:=
 each (fun y2 i2 (s2:Nat) nx2=>
  need (decide ((max y2.Tiers 0)≤9223372036854775807)) <|
  upto (fun i8 (s8:Nat) nx8=>
   bnd (G55 p2) fun r14=>
   each (fun y29 i29 (s29:Nat) nx29=>
    need (decide (ys_[s29]? = some (Slot.mk (i2:Int) (i8:Int) y29))) <|
    nx29 (s29+1))
   (fun(s29:Nat)=>
    nx8 s29) r14 0 s8)
  (fun(s8:Nat)=>
   nx2 s8) (max y2.Tiers 0).toNat 0 s2)
 (fun(s2:Nat)=>
  need (decide (s2=ys_.length)) (some ())) p1.Columns 0 0
theorem J78 (p1:H2) (p2:Int) (ys_:List Slot) (q_:Unit) (h:Gd0 p1 p2 ys_=some q_):Iter Ej 168 [.dptr (H2.cs p1),.dptr [U8 p2]] (ys_.map (fun y:Slot=>[.agg [G0 y.G4,G0 y.Tier,U8 y.Half]])):=by
 unfold Gd0 at h
 refine Iter_of Tryz.func168 O O ?_
 intro E hE hys
 refine G09 (fun K1 hK1=>R8 (J4 (u:=Eb p1) hE (Ga Hj O O O) ?_ O O O O))
 refine J4 (u:=E4 p1.Columns) hE (Gf Ht O O O) ?_ O O O O
 refine Q1b hE (f:=G4.av) (xs:=p1.Columns) H5 O O (fun hm11=>?_) O O O
 refine J4 (u:=G0 0) hE (G5 O O) ?_ O O O O
 refine Zv ?_
 refine hK1 _ _ _ (Gfa ?_)
 obtain⟨b2,kx2,hb2,hkx2,h⟩:=Hx h
 refine J56 (fun i2 (s2:Nat)=>each b2 kx2 (List.drop i2 p1.Columns) i2 s2=some q_) (fun i2 s2=>[(0,.sc (.func (.yield E.lp) #[] #[])),(2,.dptr [U8 p2]),(10,E4 p1.Columns),(11,Ei p1.Columns.length),(12,Ei i2)]) (fun i2 s2=>[]) (fun i2 s2=>s2) (fun i2=>p1.Columns.length - i2) 0 0 h ⟨(.sm O O),G,rfl⟩ rfl ?_
 clear h
 intro i2 s2 hi2 K2 e2
 refine G09 (fun K3 hK3=>R8 (J4 (u:=BL (decide ((i2:Int) < (p1.Columns.length:Int)))) hE (J1 O O O) ?_ O O O O))
 refine Zv ?_
 refine hK3 _ _ _ (G09 (fun K4 hK4=>H62 O (fun hb=>?_) (fun hb=>?_)))
 ·
  have hk2:=Jc hb
  obtain⟨y2,nx2,hy2,hn2,h⟩:=Hm hi2 hk2
  replace h:=Rn hb2 h
  refine Ha9 (hK4 _ _ _ (G09 (fun K5 hK5=>Gfa (G09 (fun K6 hK6=>R8 (J4 (u:=Ei i2) hE (G5 O O) ?_ O O O O))))))
  refine J4 (u:=Ed y2) hE (Gw (f:=G4.av) (xs:=p1.Columns) (y:=y2) O O O H5 hy2 O) ?_ O O O O
  refine J4 (u:=.agg (G4.cs y2)) hE (Gj Rq O O O) ?_ O O O O
  refine J4 (u:=.ptr 1193 0) hE (Ju 1193 12 G66 O O) ?_ O O O O
  refine J4 (u:=Ei i2) hE (G7 O O) ?_ O O O O
  refine JIL_go0 (u:=.junk) hE (J2 (u:=.agg (G4.cs y2)) (ds:=(G4.cs y2)) Gb5 O O O O O O O O) ?_ O O O
  refine Zv ?_
  refine hK6 _ _ _ (G09 (fun K7 hK7=>R8 (J4 (u:=.ptr 1193 3) hE (Zw Zm O O) ?_ O O O O)))
  refine J4 (u:=G0 y2.Tiers) hE (Zi Gc O O O O) ?_ O O O O
  refine J4 (u:=G0 (max y2.Tiers 0)) hE (A_max O O O) ?_ O O O O
  refine J4 (u:=G0 0) hE (G5 O O) ?_ O O O O
  refine Zv ?_
  refine hK7 _ _ _ (Gfa ?_)
  obtain⟨hx8,h⟩:=Hv h
  obtain⟨b8,kx8,hb8,hkx8,h⟩:=G8e h
  refine J56 (fun i8 (s8:Nat)=>upto b8 kx8 ((max y2.Tiers 0).toNat - i8) i8 s8=some q_) (fun i8 s8=>[(0,.sc (.func (.yield E.lp) #[] #[])),(2,.dptr [U8 p2]),(4,Ei i2),(10,E4 p1.Columns),(11,Ei p1.Columns.length),(12,Ei i2),(19,G0 (max y2.Tiers 0)),(20,Ei i8)]) (fun i8 s8=>[(1193,.box 64 (G4.cs y2))]) (fun i8 s8=>s8) (fun i8=>(max y2.Tiers 0).toNat - i8) 0 s2 h ⟨(.sm O O),⟨⟨_,rfl,.boxL rfl (.sm O O)⟩,G⟩,rfl⟩ rfl ?_
  clear h
  intro i8 s8 hi8 K8 e8
  refine G09 (fun K9 hK9=>R8 (J4 (u:=BL (decide ((i8:Int) < (max y2.Tiers 0)))) hE (J1 O O O) ?_ O O O O))
  refine Zv ?_
  refine hK9 _ _ _ (G09 (fun K10 hK10=>H62 O (fun hb=>?_) (fun hb=>?_)))
  ·
   have hk8:=G5e hb
   obtain⟨nx8,hn8,h⟩:=G59 hi8 hk8
   replace h:=Hfc hb8 h
   refine Ha9 (hK10 _ _ _ (G09 (fun K11 hK11=>Gfa (G09 (fun K12 hK12=>R8 (J4 (u:=Ei i8) hE (G5 O O) ?_ O O O O))))))
   refine J4 (u:=Ei i8) hE (G7 O O) ?_ O O O O
   refine Zv ?_
   refine hK12 _ _ _ (G09 (fun K13 hK13=>R8 (J4 (u:=U8 p2) hE (Gf Jd O O O) ?_ O O O O)))
   obtain⟨r14,hr14,h⟩:=Ge h
   refine J4 (u:=Ea r14) hE (Gk O (Haf p2 r14 hr14) J91 ⟨O,O,G⟩) ?_ O O O O
   refine Q1b hE (f:=U8) (xs:=r14) G8f O O (fun hm25=>?_) O O O
   refine J4 (u:=G0 0) hE (G5 O O) ?_ O O O O
   refine Zv ?_
   refine hK13 _ _ _ (Gfa ?_)
   obtain⟨b29,kx29,hb29,hkx29,h⟩:=Hx h
   refine J56 (fun i29 (s29:Nat)=>each b29 kx29 (List.drop i29 r14) i29 s29=some q_) (fun i29 s29=>[(0,.sc (.func (.yield E.lp) #[] #[])),(2,.dptr [U8 p2]),(4,Ei i2),(6,Ei i8),(10,E4 p1.Columns),(11,Ei p1.Columns.length),(12,Ei i2),(19,G0 (max y2.Tiers 0)),(20,Ei i8),(24,Ea r14),(25,Ei r14.length),(26,Ei i29)]) (fun i29 s29=>[(1193,.box 64 (G4.cs y2))]) (fun i29 s29=>s29) (fun i29=>r14.length - i29) 0 s8 h ⟨(.sm O O),⟨⟨_,rfl,.boxL rfl (.sm O O)⟩,G⟩,rfl⟩ rfl ?_
   clear h
   intro i29 s29 hi29 K29 e29
   refine G09 (fun K30 hK30=>R8 (J4 (u:=BL (decide ((i29:Int) < (r14.length:Int)))) hE (J1 O O O) ?_ O O O O))
   refine Zv ?_
   refine hK30 _ _ _ (G09 (fun K31 hK31=>H62 O (fun hb=>?_) (fun hb=>?_)))
   ·
    have hk29:=Jc hb
    obtain⟨y29,nx29,hy29,hn29,h⟩:=Hm hi29 hk29
    replace h:=Rn hb29 h
    refine Ha9 (hK31 _ _ _ (G09 (fun K32 hK32=>Gfa (G09 (fun K33 hK33=>R8 (J4 (u:=.dptr [U8 y29]) hE (Gw (f:=U8) (xs:=r14) (y:=y29) O O O G8f hy29 O) ?_ O O O O))))))
    refine J4 (u:=U8 y29) hE (Gf Jd O O O) ?_ O O O O
    refine J4 (u:=U8 y29) hE (G7 O O) ?_ O O O O
    refine Zv ?_
    refine hK33 _ _ _ (G09 (fun K34 hK34=>R8 (J4 (u:=.sc (.func (.yield E.lp) #[] #[])) hE (G5 O O) ?_ O O O O)))
    refine J4 (u:=Ei i2) hE (G5 O O) ?_ O O O O
    refine J4 (u:=Ei i8) hE (G5 O O) ?_ O O O O
    refine J4 (u:=U8 y29) hE (G5 O O) ?_ O O O O
    refine J4 (u:=.agg [Ei i2,Ei i8,U8 y29]) hE (Jj (cs:=[Ei i2,Ei i8,U8 y29]) [(0,1),(1,1),(2,1)] [G0 0,G0 0,U8 0] [E0,E0,.int .u8 0] G91 Gda ⟨.inl O,.inl O,.inl O,G⟩ O O) ?_ O O O O
    obtain⟨ha35,h⟩:=Hv h
    refine JIL_yield (us:=[.agg [Ei i2,Ei i8,U8 y29]]) hE O O ⟨O,O,G⟩ (yld_at (f:=(fun y:Slot=>[.agg [G0 y.G4,G0 y.Tier,U8 y.Half]])) (x:=(Slot.mk (i2:Int) (i8:Int) y29)) hys ha35) ?_ O O O
    refine J4 (u:=BL false) hE (Qh (b:=true) O O) ?_ O O O O
    refine Zv ?_
    refine hK34 _ _ _ (JI_condF O (Ha9 (hK32 _ _ _ (R8 (J4 (u:=G0 ((i29+1:Nat):Int)) hE (Hu (Hc hk29 hm25) O O O) ?_ O O O O)))))
    refine J4 (u:=G0 ((i29+1:Nat):Int)) hE (G5 O O) ?_ O O O O
    refine Zv ?_
    exact e29 _ _ (i29+1) (s29+1) _ (app1 hn29 h) (by omega) ⟨(.sm O O),⟨⟨_,rfl,.boxL rfl (.sm O O)⟩,G⟩,rfl⟩ rfl
   ·
    have h:=app1 hkx29 (Hn hi29 (H6 hb))
    refine Jc1 (hK11 _ _ _ (R8 (J4 (u:=G0 ((i8+1:Nat):Int)) hE (Hu (Hc hk8 (G32 hx8)) O O O) ?_ O O O O)))
    refine J4 (u:=G0 ((i8+1:Nat):Int)) hE (G5 O O) ?_ O O O O
    refine Zv ?_
    exact e8 _ _ (i8+1) s29 _ (app1 hn8 h) (by omega) ⟨(.sm O O),⟨⟨_,rfl,.boxL rfl (.sm O O)⟩,G⟩,rfl⟩ rfl
  ·
   have h:=app1 hkx8 (G5a hi8 (Yg hb))
   refine Jc1 (hK5 _ _ _ (R8 (J4 (u:=G0 ((i2+1:Nat):Int)) hE (Hu (Hc hk2 hm11) O O O) ?_ O O O O)))
   refine J4 (u:=G0 ((i2+1:Nat):Int)) hE (G5 O O) ?_ O O O O
   refine Zv ?_
   exact e2 _ _ (i2+1) s8 _ (app1 hn2 h) (by omega) ⟨(.sm O O),G,rfl⟩ rfl
 ·
  have h:=app1 hkx2 (Hn hi2 (H6 hb))
  refine Jc1 (yld_end (Hv h).1)
theorem J79 (S_:(H2)→(Int)→Option (List Slot)) (hS_:∀ p1 p2 r,S_ p1 p2=some r→Gd0 p1 p2 r=some ()) (p1:H2) (p2:Int) (r:List Slot) (h:S_ p1 p2=some r):Iter Ej 168 [.dptr (H2.cs p1),.dptr [U8 p2]] (r.map (fun y:Slot=>[.agg [G0 y.G4,G0 y.Tier,U8 y.Half]])):=J78 p1 p2 r () (hS_ p1 p2 r h)
end
end Go.Proofs.YthcpolfodgjekaaGreat
