/-
 Models of functions of the program,and that they return what the models say.
-/
import Derived.Test.YtknalejjpofoaaaGreatSortLay
import Derived.Test.YtknalejjpofoaaaGreatLent
set_option maxRecDepth 100000
set_option maxHeartbeats 1000000
set_option linter.unusedVariables false
set_option linter.unusedSimpArgs false
namespace Go.Proofs.YtknalejjpofoaaaGreat
open Go.RowKit
noncomputable section
abbrev Ep:=Tryz.prog
structure Hg where
 n:Int
 low:Int
 high:Int
 deriving DecidableEq,Inhabited
def Hg.cs (x:Hg):List AV:=[G0 x.n,G0 x.low,G0 x.high]
def Hg.av (x:Hg):AV:=.agg x.cs
structure G4 where
 Bay:Int
 Row:Int
 Deck:Bool
 Tiers:Int
 Height:Int
 Kilos20:Int
 Kilos40:Int
 Lash:Int
 Plugs:List Int
 X:Int
 Y:Int
 Z:Int
 deriving DecidableEq,Inhabited
def G4.cs (x:G4):List AV:=[G0 x.Bay,G0 x.Row,BL x.Deck,G0 x.Tiers,G0 x.Height,G0 x.Kilos20,G0 x.Kilos40,G0 x.Lash,E2 x.Plugs,G0 x.X,G0 x.Y,G0 x.Z]
def G4.av (x:G4):AV:=.agg x.cs
abbrev Ei (x:G4):AV:=.dptr (G4.cs x)
abbrev E4:=LS 12 G4.av
structure G9 where
 Bay:Int
 Rows:List Int
 deriving DecidableEq,Inhabited
def G9.cs (x:G9):List AV:=[G0 x.Bay,E2 x.Rows]
def G9.av (x:G9):AV:=.agg x.cs
abbrev E5:=LS 2 G9.av
structure Light where
 Kilos:Int
 X:Int
 Y:Int
 Z:Int
 deriving DecidableEq,Inhabited
def Light.cs (x:Light):List AV:=[G0 x.Kilos,G0 x.X,G0 x.Y,G0 x.Z]
def Light.av (x:Light):AV:=.agg x.cs
structure Row where
 Draught:Int
 Kilos:Int
 Buoy:Int
 Metacentre:Int
 Turn:Int
 deriving DecidableEq,Inhabited
def Row.cs (x:Row):List AV:=[G0 x.Draught,G0 x.Kilos,G0 x.Buoy,G0 x.Metacentre,G0 x.Turn]
def Row.av (x:Row):AV:=.agg x.cs
abbrev E7:=LS 5 Row.av
structure Frame where
 X:Int
 Light:Int
 Share:Int
 Shear:Int
 Bend:Int
 deriving DecidableEq,Inhabited
def Frame.cs (x:Frame):List AV:=[G0 x.X,G0 x.Light,G0 x.Share,G0 x.Shear,G0 x.Bend]
def Frame.av (x:Frame):AV:=.agg x.cs
abbrev E8:=LS 5 Frame.av
structure Gk where
 Kilos:Int
 X:Int
 Y:Int
 Z:Int
 Surface:Int
 Steps:List Int
 deriving DecidableEq,Inhabited
def Gk.cs (x:Gk):List AV:=[G0 x.Kilos,G0 x.X,G0 x.Y,G0 x.Z,G0 x.Surface,E2 x.Steps]
def Gk.av (x:Gk):AV:=.agg x.cs
abbrev E9:=LS 6 Gk.av
structure G2 where
 Tolerance:Int
 Trim:Int
 List_:Int
 Stability:Int
 deriving DecidableEq,Inhabited
def G2.cs (x:G2):List AV:=[G0 x.Tolerance,G0 x.Trim,G0 x.List_,G0 x.Stability]
def G2.av (x:G2):AV:=.agg x.cs
structure Gw where
 Columns:List G4
 Covers:List G9
 Light:Light
 Rows:List Row
 Frames:List Frame
 Tanks:List Gk
 G2:G2
 deriving DecidableEq,Inhabited
def Gw.cs (x:Gw):List AV:=[E4 x.Columns,E5 x.Covers,G0 x.Light.Kilos,G0 x.Light.X,G0 x.Light.Y,G0 x.Light.Z,E7 x.Rows,E8 x.Frames,E9 x.Tanks,G0 x.G2.Tolerance,G0 x.G2.Trim,G0 x.G2.List_,G0 x.G2.Stability]
def Gw.av (x:Gw):AV:=.agg x.cs
abbrev Ef (x:Gw):AV:=.dptr (Gw.cs x)
structure Hc where
 e0:Int
 e1:Int
 e2:Int
 deriving DecidableEq,Inhabited
def Hc.cs (x:Hc):List AV:=[G0 x.e0,G0 x.e1,G0 x.e2]
def Hc.av (x:Hc):AV:=.agg x.cs
def Hc.ks (x:Hc):List Value:=[.int .i64 x.e0,.int .i64 x.e1,.int .i64 x.e2]
def Hc.kv (x:Hc):Value:=.agg x.ks.toArray
structure Slot where
 G4:Int
 Tier:Int
 Half:Int
 deriving DecidableEq,Inhabited
def Slot.cs (x:Slot):List AV:=[G0 x.G4,G0 x.Tier,U8 x.Half]
def Slot.av (x:Slot):AV:=.agg x.cs
abbrev Ek (x:Slot):AV:=.dptr (Slot.cs x)
abbrev Ea:=LS 3 Slot.av
namespace XAF
theorem tq_142 (a b:Hc):Hb8 Ep 4 142 [.int .i64 a.e0,.int .i64 a.e1,.int .i64 a.e2] [.int .i64 b.e0,.int .i64 b.e1,.int .i64 b.e2]=some (decide (a=b)):=by
 refine(show _=some ((a.e0==b.e0)&&((a.e1==b.e1)&&((a.e2==b.e2)&&true))) by kernel_rfl).trans (congrArg some ?_)
 rw [Bool.eq_iff_iff]
 simp only [Bool.and_eq_true,beq_iff_eq,decide_eq_true_eq,Bool.and_true]
 constructor
 ·intro h; obtain⟨_,_,_⟩:=a; obtain⟨_,_,_⟩:=b; simp_all
 ·intro h; subst h; simp
theorem Qe4:Gbf Ep 175 3=true:=by kernel_rfl
theorem G74:Gbf Ep 65 12=true:=by kernel_rfl
theorem H7b:Gbf Ep 69 2=true:=by kernel_rfl
theorem Q00:arrB Ep 142 3 1=true:=by kernel_rfl
theorem Qc0:H5 Ep 62=true:=by kernel_rfl
theorem Jef:H5 Ep 84=true:=by kernel_rfl
theorem Jec:H5 Ep 96=true:=by kernel_rfl
theorem Hc4:Ji Ep 175 0 0=true:=by kernel_rfl
theorem Je3:Ji Ep 175 1 1=true:=by kernel_rfl
theorem Je2:Ji Ep 175 2 2=true:=by kernel_rfl
theorem J6:Ji Ep 35 0 0=true:=by kernel_rfl
theorem Qq:Ji Ep 35 1 1=true:=by kernel_rfl
theorem G00:Ji Ep 65 0 0=true:=by kernel_rfl
theorem G55:Ji Ep 65 1 1=true:=by kernel_rfl
theorem Hc3:Ji Ep 65 10 10=true:=by kernel_rfl
theorem H27:Ji Ep 65 11 11=true:=by kernel_rfl
theorem Ye:Ji Ep 65 2 2=true:=by kernel_rfl
theorem Ge5:Ji Ep 65 3 3=true:=by kernel_rfl
theorem J0f:Ji Ep 65 4 4=true:=by kernel_rfl
theorem Q4d:Ji Ep 65 5 5=true:=by kernel_rfl
theorem Q4c:Ji Ep 65 6 6=true:=by kernel_rfl
theorem Q4b:Ji Ep 65 7 7=true:=by kernel_rfl
theorem J0e:Ji Ep 65 8 8=true:=by kernel_rfl
theorem J0d:Ji Ep 65 9 9=true:=by kernel_rfl
theorem G87:Ji Ep 69 0 0=true:=by kernel_rfl
theorem Ge4:Ji Ep 69 1 1=true:=by kernel_rfl
theorem G9e:Ga1 Ep 141 142 3=true:=by kernel_rfl
theorem Q6:Ep.follows .mixedOrders=true:=by kernel_rfl
theorem Rs:placesOf Ep 175=some [(0,1),(1,1),(2,1)]:=by kernel_rfl
theorem H11:placesOf Ep 54=some [(0,1),(1,1),(2,1)]:=by kernel_rfl
theorem Jj:Rk Ep 25=true:=by kernel_rfl
theorem Rx:Rk Ep 26=true:=by kernel_rfl
theorem Gb:Rk Ep 3=true:=by kernel_rfl
theorem Qm:Rk Ep 4=true:=by kernel_rfl
theorem Hz:Rk Ep 5=true:=by kernel_rfl
theorem Z3:Rk Ep 50=true:=by kernel_rfl
theorem Q75:R6 Ep 175 3=true:=by kernel_rfl
theorem H24:R6 Ep 65 12=true:=by kernel_rfl
theorem Jdc:R6 Ep 69 2=true:=by kernel_rfl
theorem G73:sliceB Ep 163 5 1=true:=by kernel_rfl
theorem H0f:sliceB Ep 173 175 3=true:=by kernel_rfl
theorem Je:sliceB Ep 25 65 12=true:=by kernel_rfl
theorem Qs:sliceB Ep 26 69 2=true:=by kernel_rfl
theorem Gt:sliceB Ep 50 3 1=true:=by kernel_rfl
theorem J90:(Ep.info? 142).bind (fun i=>i.zero.map Value.cells)=some (List.toArray [E0,E0,E0]):=by kernel_rfl
theorem Ze:(Ep.info? 175).bind (fun i=>i.zero.map Value.cells)=some (List.toArray [E0,E0,E0]):=by kernel_rfl
theorem H22:(Ep.info? 54).bind (fun i=>i.zero.map Value.cells)=some (List.toArray [E0,E0,.int .u8 0]):=by kernel_rfl
theorem H8f:R3 Ep 175 3=true:=by kernel_rfl
theorem Jdb:R3 Ep 5 1=true:=by kernel_rfl
theorem G3f:R3 Ep 65 12=true:=by kernel_rfl
theorem Gf0:R3 Ep 69 2=true:=by kernel_rfl
theorem H8e:(Ep.info? 3).bind (·.zero)=some E0:=by kernel_rfl
theorem J70:H19 Ep 142 Hc.kv:=H19.of_eq Hc.ks (by kernel_rfl) (fun a b h=>by simp only [Hc.ks,List.cons.injEq,Value.int.injEq,Value.bool.injEq,Value.string.injEq,true_and,and_true] at h; obtain⟨_,_,_⟩:=a; obtain⟨_,_,_⟩:=b; simp_all) 4 (by decide) (fun a b=>tq_142 a b) (fun a=>by kernel_rfl) (fun a=>by simp [Instr.sameBits,Hc.ks])
end XAF
open XAF

def G39 (l:List Hg):Option Bool:=
 each (fun y18 i18 (s18:Unit) nx18=>
  bif ((decide (y18.n < y18.low))||(decide (y18.high < y18.n))) then
  (some false)
  else
  (nx18 ()))
 (fun(s18:Unit)=>
  some true) l 0 ()
theorem H86 (l:List Hg) (r:Bool) (h:G39 l=some r):Pure Ep 96 [LS 3 Hg.av l] (·=BL r):=by
 unfold G39 at h
 refine Gz [.tmp 2] Tryz.func96 O O (Jr fun hK1=>(Yb (BL false) O (G7 (hK1 (Js fun hK2=>Jr fun hK3=>(Yb (LS 3 Hg.av l) O (JLl H0f O O O fun hm6=>(Yb (G0 0) O (G7 (hK3 (Gj ?_)))))))))))
 obtain⟨b18,kx18,hb18,hkx18,h⟩:=J2 h
 refine Hb (fun i18 (s18:Unit)=>each b18 kx18 (List.drop i18 l) i18 s18=some r) (fun i18 s18=>[(5,LS 3 Hg.av l),(6,Eo l.length),(7,Eo i18)]) (fun i18 s18=>[]) (fun i18=>l.length - i18) 0 () h ⟨(.sm O O),ø,O⟩ ?_
 clear h
 intro i18 s18 hi18 K18 e18
 refine Jr fun hK19=>(JLh (BL (decide ((i18:Int) < (l.length:Int)))) (J0 O O O) O (G7 (hK19 (Js fun hK20=>Gf O (fun hb=>?_) (fun hb=>?_)))))
 ·
  have hk18:=Jk hb
  obtain⟨y18,nx18,hy18,hn18,h⟩:=Hs hi18 hk18
  replace h:=Y4 hb18 h
  refine Gi (hK20 (Js fun hK21=>Gj (Jr fun hK22=>(JLh (.dptr [G0 y18.n,G0 y18.low,G0 y18.high]) (H3 (f:=Hg.av) (xs:=l) (y:=y18) O O O H0f hy18 O) O (JLh (.agg [G0 y18.n,G0 y18.low,G0 y18.high]) (Gg Qe4 O O O) O (JLh (.ptr 1162 0) (Hx 1162 3 H8f O O) O (Hw (u:=.junk) (Hd (u:=.agg [G0 y18.n,G0 y18.low,G0 y18.high]) (ds:=[G0 y18.n,G0 y18.low,G0 y18.high]) Q75 O O O O O O O O) (G7 (hK22 (Gq [(4,.dptr [G0 y18.n,G0 y18.low,G0 y18.high]),(5,LS 3 Hg.av l),(6,Eo l.length),(7,Eo i18)] [] 1162 rfl rfl rfl ø rfl (by repeat' (first | exact .ptr | constructor)) ?_))))))))))
  refine Jr fun hK23=>(JLh (.dptr [G0 y18.n,G0 y18.low,G0 y18.high]) (Ga Hc4 O O O) O (JLh (G0 y18.n) (Gh Gb O O O) O (JLh (.dptr [G0 y18.low,G0 y18.high]) (Ga Je3 O O O) O (JLh (G0 y18.low) (Gh Gb O O O) O (JLh (BL (decide (y18.n < y18.low))) (J0 O O O) O (Yb (BL (decide (y18.n < y18.low))) O (JLo (.dptr [G0 y18.n,G0 y18.low,G0 y18.high]) [] O .scf ø (fun hc=>Ga Hc4 O O O) O (JLo (G0 y18.n) [17] O .scf ⟨Ua,ø⟩ (fun hc=>Gh Gb O O O) O (JLo (.dptr [G0 y18.high]) [] O .scf ø (fun hc=>Ga Je2 O O O) O (JLo (G0 y18.high) [19] O .scf ⟨Ua,ø⟩ (fun hc=>Gh Gb O O O) O (JLo (BL (decide (y18.high < y18.n))) [18,20] O .scf ⟨Ua,Ua,ø⟩ (fun hc=>G43 O O O) O (JLh (BL ((decide (y18.n < y18.low))||(decide (y18.high < y18.n)))) (G0b O O O O) O (G7 (hK23 ?_))))))))))))))
  refine JCc O h ?_ ?_<;>intro h hb
  ·
   refine Jr fun hK24=>(Yb (BL false) O (G7 (hK24 (Gs (fin1 BL h)))))
  ·
   refine Gi (hK21 (G3 (JLh (G0 ((i18+1:Nat):Int)) (Hu (Hj hk18 hm6) O O O) O (Yb (G0 ((i18+1:Nat):Int)) O (G7 (e18 _ _ (i18+1) () (app1 hn18 h) (by omega) ⟨(.sm O O),ø,rfl⟩))))))
 ·
  have h:=app1 hkx18 (Ht hi18 (Ha hb))
  refine Hm (hK2 (Jr fun hK25=>(Yb (BL true) O (G7 (hK25 (Gs (fin1 BL h)))))))

def G7c (c:G4):Option Bool:=
 each (fun y27 i27 (s27:Unit) nx27=>
  wrp (c.Tiers - 1) fun v33=>
  bnd (G39 [(Hg.mk y27 0 v33)]) fun r34=>
  bnd (bif ((!(!r34))&&(decide (0 < (i27:Int)))) then some (IntKind.i64.wrap ((i27:Int) - 1)) else some 0) fun v35=>
  bnd (bif ((!(!r34))&&(decide (0 < (i27:Int)))) then Q9 c.Plugs v35 some else some default) fun y36=>
  bif ((!r34)||((decide (0 < (i27:Int)))&&(decide (y27≤y36)))) then
  (some false)
  else
  (nx27 ()))
 (fun(s27:Unit)=>
  bnd (G39 [(Hg.mk c.Bay 0 39),(Hg.mk c.Row 0 30),(Hg.mk c.Tiers 1 10),(Hg.mk c.Height 0 40000),(Hg.mk c.Kilos20 0 500000000),(Hg.mk c.Kilos40 0 500000000),(Hg.mk c.Lash 0 1000000000000),(Hg.mk c.X (-500000) 500000),(Hg.mk c.Y (-500000) 500000),(Hg.mk c.Z (-500000) 500000)]) fun r39=>
  some r39) c.Plugs 0 ()
abbrev Er (c:G4):List AV:=[G0 c.Tiers,G0 c.Height,G0 c.Kilos20,G0 c.Kilos40,G0 c.Lash,E2 c.Plugs,G0 c.X,G0 c.Y,G0 c.Z]
theorem Q31 (c:G4) (r:Bool) (h:G7c c=some r):Pure Ep 62 [.agg (G4.cs c)] (·=BL r):=by
 unfold G7c at h
 refine Gz [.tmp 2] Tryz.func62 O O (Jr fun hK1=>(JLh (.ptr 1127 0) (Jm (cs:=(G4.cs c)) 1127 O O O O O) O (Yb (BL false) O (G7 (hK1 (Gq [(1,Ei c)] [] 1127 rfl rfl rfl ø rfl (by exact⟨.ptr,ø⟩) (Jr fun hK2=>(Yb (.fn 96 []) O (G7 (hK2 (Js fun hK3=>Jr fun hK4=>(JLh (.dptr [E2 c.Plugs,G0 c.X,G0 c.Y,G0 c.Z]) (Ga J0e O O O) O (JLh (E2 c.Plugs) (Gh Z3 O O O) O (JLl Gt O O O fun hm8=>(Yb (G0 0) O (G7 (hK4 (Gj ?_))))))))))))))))))
 obtain⟨b27,kx27,hb27,hkx27,h⟩:=J2 h
 refine Hb (fun i27 (s27:Unit)=>each b27 kx27 (List.drop i27 c.Plugs) i27 s27=some r) (fun i27 s27=>[(1,Ei c),(3,.fn 96 []),(7,E2 c.Plugs),(8,Eo c.Plugs.length),(9,Eo i27)]) (fun i27 s27=>[]) (fun i27=>c.Plugs.length - i27) 0 () h ⟨(.sm O O),ø,rfl⟩ ?_
 clear h
 intro i27 s27 hi27 K27 e27
 refine Jr fun hK28=>(JLh (BL (decide ((i27:Int) < (c.Plugs.length:Int)))) (J0 O O O) O (G7 (hK28 (Js fun hK29=>Gf O (fun hb=>?_) (fun hb=>?_)))))
 ·
  have hk27:=Jk hb
  obtain⟨y27,nx27,hy27,hn27,h⟩:=Hs hi27 hk27
  replace h:=Y4 hb27 h
  refine Gi (hK29 (Js fun hK30=>Gj (Jr fun hK31=>(Yb (Eo i27) O (JLh (.dptr [G0 y27]) (H3 (f:=G0) (xs:=c.Plugs) (y:=y27) O O O Gt hy27 O) O (JLh (G0 y27) (Gh Gb O O O) O (Yb (Eo i27) O (Yb (G0 y27) O (G7 (hK31 (Jr fun hK32=>(Yb (.fn 96 []) O (Yb (G0 y27) O (JLh (.dptr (Er c)) (Ga Ge5 O O O) O (JLh (G0 c.Tiers) (Gh Gb O O O) O ?_)))))))))))))))
  obtain⟨v33,hv33,h⟩:=wrp_out h
  refine JLh (G0 v33) (Zn hv33 O O O) O (JLh (.agg [G0 y27,G0 0,G0 v33]) (J3 (cs:=[G0 y27,G0 0,G0 v33]) [(0,1),(1,1),(2,1)] [G0 0,G0 0,G0 0] [E0,E0,E0] Rs Ze ⟨.inl O,.inl O,.inl O,ø⟩ O O) O (JLh (LS 3 Hg.av [(Hg.mk y27 0 v33)]) (H6 (xs:=[.agg [G0 y27,G0 0,G0 v33]]) O ⟨O,O,ø⟩ H0f H8f O O O O) O ?_))
  obtain⟨r34,hr34,h⟩:=Ge h
  refine JLh (BL r34) (G25 (args:=[LS 3 Hg.av [(Hg.mk y27 0 v33)]]) (caps:=[]) O O (H86 [(Hg.mk y27 0 v33)] r34 hr34) Jec ⟨O,O,ø⟩ O) O (JLh (BL (!r34)) (Rv (b:=r34) O O) O (Yb (BL (!r34)) O (JLo (Eo i27) [] O .scf ø (fun hc=>G6 O O) O (JLo (BL (decide (0 < (i27:Int)))) [24] O .scf ⟨Ua,ø⟩ (fun hc=>G43 O O O) O (JLo (BL (decide (0 < (i27:Int)))) [25] O .scf ⟨Ua,ø⟩ (fun hc=>G6 O O) O (JLo (G0 y27) [] O .optt ø (fun hc=>G6 O O) O (JLo (.dptr [E2 c.Plugs,G0 c.X,G0 c.Y,G0 c.Z]) [] O .optt ø (fun hc=>Ga J0e O O O) O (JLo (E2 c.Plugs) [28] O .optt ⟨Ua,ø⟩ (fun hc=>Gh Z3 O O O) O (JLo (Eo i27) [] O .optt ø (fun hc=>G6 O O) O ?_)))))))))
  obtain⟨v35,hv35,h⟩:=Ge h
  refine JLo (G0 v35) [30] O .optt ⟨Ua,ø⟩ (fun hc=>Zn (Option.some.inj (Gx hc hv35)) O O O) O ?_
  obtain⟨y36,hy36,h⟩:=Ge h
  refine JLo (.dptr [G0 y36]) [29,31] O .optt ⟨Ua,Ua,ø⟩ (fun hc=>(match Yz (Gx hc hy36) with | ⟨_,hm_,hy_⟩=>H3 (f:=G0) (xs:=c.Plugs) (y:=y36) O O O Gt hy_ hm_)) O (JLo (G0 y36) [32] O .optt ⟨Ua,ø⟩ (fun hc=>Gh Gb O O O) O (JLo (BL (decide (y27≤y36))) [27,33] O .optt ⟨Ua,Ua,ø⟩ (fun hc=>H4a O O O) O (Gc (u:=BL ((decide (0 < (i27:Int)))&&(decide (y27≤y36)))) [(26,BL (decide (0 < (i27:Int)))),(34,_)] O O O .scf ⟨.all id,.part,ø⟩ (fun hc=>Qr O O O O) ?_)))
  refine JLh (BL ((!r34)||((decide (0 < (i27:Int)))&&(decide (y27≤y36))))) (G0b O O O O) O (G7 (hK32 (JCc O h (fun h hb=>?_) (fun h hb=>?_))))
  ·
   refine Jr fun hK37=>(Yb (BL false) O (G7 (hK37 (Gs (fin1 BL h)))))
  ·
   refine Gi (hK30 (G3 (JLh (G0 ((i27+1:Nat):Int)) (Hu (Hj hk27 hm8) O O O) O (Yb (G0 ((i27+1:Nat):Int)) O (G7 (e27 _ _ (i27+1) () (app1 hn27 h) (by omega) ⟨(.sm O O),ø,rfl⟩))))))
 ·
  have h:=app1 hkx27 (Ht hi27 (Ha hb))
  refine Hm (hK3 ?_)
  refine Jr fun hK38=>(Yb (.fn 96 []) O (JLh (Ei c) (Ga G00 O O O) O (JLh (G0 c.Bay) (Gh Gb O O O) O (JLh (.agg [G0 c.Bay,G0 0,G0 39]) (J3 (cs:=[G0 c.Bay,G0 0,G0 39]) [(0,1),(1,1),(2,1)] [G0 0,G0 0,G0 0] [E0,E0,E0] Rs Ze ⟨.inl O,.inl O,.inl O,ø⟩ O O) O (JLh (.dptr [G0 c.Row,BL c.Deck,G0 c.Tiers,G0 c.Height,G0 c.Kilos20,G0 c.Kilos40,G0 c.Lash,E2 c.Plugs,G0 c.X,G0 c.Y,G0 c.Z]) (Ga G55 O O O) O (JLh (G0 c.Row) (Gh Gb O O O) O (JLh (.agg [G0 c.Row,G0 0,G0 30]) (J3 (cs:=[G0 c.Row,G0 0,G0 30]) [(0,1),(1,1),(2,1)] [G0 0,G0 0,G0 0] [E0,E0,E0] Rs Ze ⟨.inl O,.inl O,.inl O,ø⟩ O O) O (JLh (.dptr (Er c)) (Ga Ge5 O O O) O (JLh (G0 c.Tiers) (Gh Gb O O O) O (JLh (.agg [G0 c.Tiers,G0 1,G0 10]) (J3 (cs:=[G0 c.Tiers,G0 1,G0 10]) [(0,1),(1,1),(2,1)] [G0 0,G0 0,G0 0] [E0,E0,E0] Rs Ze ⟨.inl O,.inl O,.inl O,ø⟩ O O) O (JLh (.dptr [G0 c.Height,G0 c.Kilos20,G0 c.Kilos40,G0 c.Lash,E2 c.Plugs,G0 c.X,G0 c.Y,G0 c.Z]) (Ga J0f O O O) O (JLh (G0 c.Height) (Gh Gb O O O) O (JLh (.agg [G0 c.Height,G0 0,G0 40000]) (J3 (cs:=[G0 c.Height,G0 0,G0 40000]) [(0,1),(1,1),(2,1)] [G0 0,G0 0,G0 0] [E0,E0,E0] Rs Ze ⟨.inl O,.inl O,.inl O,ø⟩ O O) O ?_)))))))))))))
  refine JLh (.dptr [G0 c.Kilos20,G0 c.Kilos40,G0 c.Lash,E2 c.Plugs,G0 c.X,G0 c.Y,G0 c.Z]) (Ga Q4d O O O) O (JLh (G0 c.Kilos20) (Gh Gb O O O) O (JLh (.agg [G0 c.Kilos20,G0 0,G0 500000000]) (J3 (cs:=[G0 c.Kilos20,G0 0,G0 500000000]) [(0,1),(1,1),(2,1)] [G0 0,G0 0,G0 0] [E0,E0,E0] Rs Ze ⟨.inl O,.inl O,.inl O,ø⟩ O O) O (JLh (.dptr [G0 c.Kilos40,G0 c.Lash,E2 c.Plugs,G0 c.X,G0 c.Y,G0 c.Z]) (Ga Q4c O O O) O (JLh (G0 c.Kilos40) (Gh Gb O O O) O (JLh (.agg [G0 c.Kilos40,G0 0,G0 500000000]) (J3 (cs:=[G0 c.Kilos40,G0 0,G0 500000000]) [(0,1),(1,1),(2,1)] [G0 0,G0 0,G0 0] [E0,E0,E0] Rs Ze ⟨.inl O,.inl O,.inl O,ø⟩ O O) O (JLh (.dptr [G0 c.Lash,E2 c.Plugs,G0 c.X,G0 c.Y,G0 c.Z]) (Ga Q4b O O O) O (JLh (G0 c.Lash) (Gh Gb O O O) O (JLh (.agg [G0 c.Lash,G0 0,G0 1000000000000]) (J3 (cs:=[G0 c.Lash,G0 0,G0 1000000000000]) [(0,1),(1,1),(2,1)] [G0 0,G0 0,G0 0] [E0,E0,E0] Rs Ze ⟨.inl O,.inl O,.inl O,ø⟩ O O) O (JLh (.dptr [G0 c.X,G0 c.Y,G0 c.Z]) (Ga J0d O O O) O (JLh (G0 c.X) (Gh Gb O O O) O (JLh (.agg [G0 c.X,G0 (-500000),G0 500000]) (J3 (cs:=[G0 c.X,G0 (-500000),G0 500000]) [(0,1),(1,1),(2,1)] [G0 0,G0 0,G0 0] [E0,E0,E0] Rs Ze ⟨.inl O,.inl O,.inl O,ø⟩ O O) O (JLh (.dptr [G0 c.Y,G0 c.Z]) (Ga Hc3 O O O) O (JLh (G0 c.Y) (Gh Gb O O O) O ?_)))))))))))))
  refine JLh (.agg [G0 c.Y,G0 (-500000),G0 500000]) (J3 (cs:=[G0 c.Y,G0 (-500000),G0 500000]) [(0,1),(1,1),(2,1)] [G0 0,G0 0,G0 0] [E0,E0,E0] Rs Ze ⟨.inl O,.inl O,.inl O,ø⟩ O O) O (JLh (.dptr [G0 c.Z]) (Ga H27 O O O) O (JLh (G0 c.Z) (Gh Gb O O O) O (JLh (.agg [G0 c.Z,G0 (-500000),G0 500000]) (J3 (cs:=[G0 c.Z,G0 (-500000),G0 500000]) [(0,1),(1,1),(2,1)] [G0 0,G0 0,G0 0] [E0,E0,E0] Rs Ze ⟨.inl O,.inl O,.inl O,ø⟩ O O) O (JLh (LS 3 Hg.av [(Hg.mk c.Bay 0 39),(Hg.mk c.Row 0 30),(Hg.mk c.Tiers 1 10),(Hg.mk c.Height 0 40000),(Hg.mk c.Kilos20 0 500000000),(Hg.mk c.Kilos40 0 500000000),(Hg.mk c.Lash 0 1000000000000),(Hg.mk c.X (-500000) 500000),(Hg.mk c.Y (-500000) 500000),(Hg.mk c.Z (-500000) 500000)]) (H6 (xs:=[.agg [G0 c.Bay,G0 0,G0 39],.agg [G0 c.Row,G0 0,G0 30],.agg [G0 c.Tiers,G0 1,G0 10],.agg [G0 c.Height,G0 0,G0 40000],.agg [G0 c.Kilos20,G0 0,G0 500000000],.agg [G0 c.Kilos40,G0 0,G0 500000000],.agg [G0 c.Lash,G0 0,G0 1000000000000],.agg [G0 c.X,G0 (-500000),G0 500000],.agg [G0 c.Y,G0 (-500000),G0 500000],.agg [G0 c.Z,G0 (-500000),G0 500000]]) O ⟨O,O,O,O,O,O,O,O,O,O,O,O,O,O,O,O,O,O,O,O,ø⟩ H0f H8f O O O O) O ?_))))
  obtain⟨r39,hr39,h⟩:=Ge h
  refine JLh (BL r39) (G25 (args:=[LS 3 Hg.av [(Hg.mk c.Bay 0 39),(Hg.mk c.Row 0 30),(Hg.mk c.Tiers 1 10),(Hg.mk c.Height 0 40000),(Hg.mk c.Kilos20 0 500000000),(Hg.mk c.Kilos40 0 500000000),(Hg.mk c.Lash 0 1000000000000),(Hg.mk c.X (-500000) 500000),(Hg.mk c.Y (-500000) 500000),(Hg.mk c.Z (-500000) 500000)]]) (caps:=[]) O O (H86 [(Hg.mk c.Bay 0 39),(Hg.mk c.Row 0 30),(Hg.mk c.Tiers 1 10),(Hg.mk c.Height 0 40000),(Hg.mk c.Kilos20 0 500000000),(Hg.mk c.Kilos40 0 500000000),(Hg.mk c.Lash 0 1000000000000),(Hg.mk c.X (-500000) 500000),(Hg.mk c.Y (-500000) 500000),(Hg.mk c.Z (-500000) 500000)] r39 hr39) Jec ⟨O,O,ø⟩ O) O (Yb (BL r39) O (G7 (hK38 (Gs (fin1 BL h)))))

def Gc6 (s:Gw) (Rp:Bool→Prop):Option Prop:=
 bif (((decide ((s.Columns.length:Int) < 1))||(decide (200 < (s.Columns.length:Int))))||(decide (40 < (s.Covers.length:Int)))) then
 (some (Rp false))
 else
 (each (fun y68 i68 (s68:(H0 Hc Int)) nx68=>
   jp (fun kj74=>
    bif y68.Deck then
    (kj74 1)
    else
    (kj74 0)) fun(j74:Int)=>
   bnd (some (H0.get s68 (Hc.mk y68.Bay y68.Row j74) 0)) fun v77=>
   Rc (v77+1) fun v78=>
   bnd (G7c y68) fun r80=>
   bif (!r80) then
   (some (Rp false))
   else
   (nx68 (H0.put s68 (Hc.mk y68.Bay y68.Row j74) v78)))
  (fun(s68:(H0 Hc Int))=>
   each (fun y84 i84 (s84:(H0 Hc Int)) nx84=>
    bif (((decide (y84.Bay < 0))||(decide (40≤y84.Bay)))||(decide ((y84.Rows.length:Int)=0))) then
    (some (Rp false))
    else
    (each (fun y157 i157 (s157:(H0 Hc Int)) nx157=>
      bnd (bif ((!((decide (y157 < 0))||(decide (30 < y157))))&&(decide (0 < (i157:Int)))) then Rc ((i157:Int) - 1) some else some 0) fun v164=>
      bnd (bif ((!((decide (y157 < 0))||(decide (30 < y157))))&&(decide (0 < (i157:Int)))) then Q9 y84.Rows v164 some else some default) fun y165=>
      bif (((decide (y157 < 0))||(decide (30 < y157)))||((decide (0 < (i157:Int)))&&(decide (y157≤y165)))) then
      (some (Rp false))
      else
      (bnd (some (H0.get s157 (Hc.mk y84.Bay y157 2) 0)) fun v167=>
       Rc (v167+1) fun v168=>
       nx157 (H0.put s157 (Hc.mk y84.Bay y157 2) v168)))
     (fun(s157:(H0 Hc Int))=>
      nx84 s157) y84.Rows 0 s84))
   (fun(s84:(H0 Hc Int))=>
    eachM (fun(x176:Hc×Int) (s176:Unit) nx176=>
     bif decide (1 < x176.2) then
     (lft (some (Rp false)))
     else
     (nx176 ()))
    (fun(s176:Unit)=>
     some (Rp true)) (H0.l s84) ()) s.Covers 0 s68) s.Columns 0 (H0.empty:H0 Hc Int))
def H1b (s:Gw):Option Bool:=
 bif (((decide ((s.Columns.length:Int) < 1))||(decide (200 < (s.Columns.length:Int))))||(decide (40 < (s.Covers.length:Int)))) then
 (some (id false))
 else
 (each (fun y68 i68 (s68:(H0 Hc Int)) nx68=>
   jp (fun kj74=>
    bif y68.Deck then
    (kj74 1)
    else
    (kj74 0)) fun(j74:Int)=>
   bnd (some (H0.get s68 (Hc.mk y68.Bay y68.Row j74) 0)) fun v77=>
   Rc (v77+1) fun v78=>
   bnd (G7c y68) fun r80=>
   bif (!r80) then
   (some (id false))
   else
   (nx68 (H0.put s68 (Hc.mk y68.Bay y68.Row j74) v78)))
  (fun(s68:(H0 Hc Int))=>
   each (fun y84 i84 (s84:(H0 Hc Int)) nx84=>
    bif (((decide (y84.Bay < 0))||(decide (40≤y84.Bay)))||(decide ((y84.Rows.length:Int)=0))) then
    (some (id false))
    else
    (each (fun y157 i157 (s157:(H0 Hc Int)) nx157=>
      bnd (bif ((!((decide (y157 < 0))||(decide (30 < y157))))&&(decide (0 < (i157:Int)))) then Rc ((i157:Int) - 1) some else some 0) fun v164=>
      bnd (bif ((!((decide (y157 < 0))||(decide (30 < y157))))&&(decide (0 < (i157:Int)))) then Q9 y84.Rows v164 some else some default) fun y165=>
      bif (((decide (y157 < 0))||(decide (30 < y157)))||((decide (0 < (i157:Int)))&&(decide (y157≤y165)))) then
      (some (id false))
      else
      (bnd (some (H0.get s157 (Hc.mk y84.Bay y157 2) 0)) fun v167=>
       Rc (v167+1) fun v168=>
       nx157 (H0.put s157 (Hc.mk y84.Bay y157 2) v168)))
     (fun(s157:(H0 Hc Int))=>
      nx84 s157) y84.Rows 0 s84))
   (fun(s84:(H0 Hc Int))=>
    J4f (fun(x176:Hc×Int) (s176:Unit) nx176=>
     bif decide (1 < x176.2) then
     (lft (some (id false)))
     else
     (nx176 ()))
    (fun(s176:Unit)=>
     some (id true)) (H0.l s84) ()) s.Covers 0 s68) s.Columns 0 (H0.empty:H0 Hc Int))
abbrev Es (s:Gw):List AV:=[E5 s.Covers,G0 s.Light.Kilos,G0 s.Light.X,G0 s.Light.Y,G0 s.Light.Z,E7 s.Rows,E8 s.Frames,E9 s.Tanks,G0 s.G2.Tolerance,G0 s.G2.Trim,G0 s.G2.List_,G0 s.G2.Stability]
theorem Q33 (s:Gw) (Rp:Bool→Prop) (p:Prop) (h:Gc6 s Rp=some p) (hp:p):Pure Ep 29 [.agg (Gw.cs s)] (fun av=>∃ r,Rp r∧av=BL r):=by
 unfold Gc6 at h
 refine Gz [.tmp 2] Tryz.func29 O O (Jr fun hK1=>(JLh (.ptr 1085 0) (Jm (cs:=(Gw.cs s)) 1085 O O O O O) O (Yb (BL false) O (G7 (hK1 (Gq [(1,Ef s)] [] 1085 rfl rfl rfl ø rfl (by exact⟨.ptr,ø⟩) (Js fun hK2=>?_)))))))
 refine Jr fun hK3=>(JLh (Ef s) (Ga J6 O O O) O (JLh (E4 s.Columns) (Gh Jj O O O) O (JLl Je O O O fun hm15=>(JLh (BL (decide ((s.Columns.length:Int) < 1))) (J0 O O O) O (Yb (BL (decide ((s.Columns.length:Int) < 1))) O (JLo (Ef s) [] O .scf ø (fun hc=>Ga J6 O O O) O (JLo (E4 s.Columns) [18] O .scf ⟨Ua,ø⟩ (fun hc=>Gh Jj O O O) O (JLo (Eo s.Columns.length) [19] O .scf ⟨Ua,ø⟩ (fun hc=>Yv (f:=G4.av) (xs:=s.Columns) Je O O) O (JLo (BL (decide (200 < (s.Columns.length:Int)))) [20] O .scf ⟨Ua,ø⟩ (fun hc=>G43 O O O) O (JLh (BL ((decide ((s.Columns.length:Int) < 1))||(decide (200 < (s.Columns.length:Int))))) (G0b O O O O) O (Yb (BL ((decide ((s.Columns.length:Int) < 1))||(decide (200 < (s.Columns.length:Int))))) O (JLo (.dptr (Es s)) [] O .scf ø (fun hc=>Ga Qq O O O) O (JLo (E5 s.Covers) [24] O .scf ⟨Ua,ø⟩ (fun hc=>Gh Rx O O O) O ?_)))))))))))))
 refine JLo (Eo s.Covers.length) [25] O .scf ⟨Ua,ø⟩ (fun hc=>Yv (f:=G9.av) (xs:=s.Covers) Qs O O) O (JLo (BL (decide (40 < (s.Covers.length:Int)))) [26] O .scf ⟨Ua,ø⟩ (fun hc=>G43 O O O) O (JLh (BL (((decide ((s.Columns.length:Int) < 1))||(decide (200 < (s.Columns.length:Int))))||(decide (40 < (s.Covers.length:Int))))) (G0b O O O O) O (G7 (hK3 (JCc O h (fun h hb=>?_) (fun h hb=>?_))))))
 ·
  refine Jr fun hK4=>(Yb (BL false) O (G7 (hK4 (Gs (⟨[BL false],[],ø,O,⟨⟨_,O,.conv (.same O)⟩,ø⟩,O,false,Eq.mpr (Option.some.inj h) hp,O⟩)))))
 ·
  refine Gi (hK2 (Jr fun hK5=>(JLh (.mp 1088) (Ge0 1088 Hc.kv G0 O O) O (Yb (.mp 1088) O (G7 (hK5 (Js fun hK6=>Jr fun hK7=>(JLh (Ef s) (Ga J6 O O O) O (JLh (E4 s.Columns) (Gh Jj O O O) O (JLl Je O O O fun hm32=>(Yb (G0 0) O (G7 (hK7 (Gj ?_))))))))))))))
  obtain⟨b68,kx68,hb68,hkx68,h⟩:=J2 h
  refine Hb (fun i68 (s68:(H0 Hc Int))=>each b68 kx68 (List.drop i68 s.Columns) i68 s68=some p) (fun i68 s68=>[(1,Ef s),(3,.mp 1088),(31,E4 s.Columns),(32,Eo s.Columns.length),(33,Eo i68)]) (fun i68 s68=>[(1088,MP 141 Hc.kv G0 s68)]) (fun i68=>s.Columns.length - i68) 0 (H0.empty:H0 Hc Int) h ⟨(.sm O O),⟨⟨_,rfl,.map⟩,ø⟩,rfl⟩ ?_
  clear h
  intro i68 s68 hi68 K68 e68
  refine Jr fun hK69=>(JLh (BL (decide ((i68:Int) < (s.Columns.length:Int)))) (J0 O O O) O (G7 (hK69 (Js fun hK70=>Gf O (fun hb=>?_) (fun hb=>?_)))))
  ·
   have hk68:=Jk hb
   obtain⟨y68,nx68,hy68,hn68,h⟩:=Hs hi68 hk68
   replace h:=Y4 hb68 h
   refine Gi (hK70 (Js fun hK71=>Gj (Jr fun hK72=>(JLh (Ei y68) (H3 (f:=G4.av) (xs:=s.Columns) (y:=y68) O O O Je hy68 O) O (JLh (.agg (G4.cs y68)) (Gg G74 O O O) O (JLh (.ptr 1086 0) (Hx 1086 12 G3f O O) O (Hw (u:=.junk) (Hd (u:=.agg (G4.cs y68)) (ds:=(G4.cs y68)) H24 O O O O O O O O) (G7 (hK72 ?_)))))))))
   refine Gq [(1,Ef s),(3,.mp 1088),(5,Ei y68),(31,E4 s.Columns),(32,Eo s.Columns.length),(33,Eo i68)] [(1088,MP 141 Hc.kv G0 s68)] 1086 rfl rfl rfl ⟨⟨_,rfl,.map⟩,ø⟩ rfl (by repeat' (first | exact .ptr | constructor)) (Jr fun hK73=>(Yb (G0 0) O (G7 (hK73 ?_))))
   obtain⟨kj74,hkj74,h⟩:=Qo h
   refine Jx (fun j74:Int=>kj74 j74=some p) (fun j74=>[(1,Ef s),(3,.mp 1088),(5,Ei y68),(6,G0 j74),(31,E4 s.Columns),(32,Eo s.Columns.length),(33,Eo i68)]) (fun j74=>[(1088,MP 141 Hc.kv G0 s68)]) (fun Kj74 ej74=>?_) ?_
   ·
    refine Jr fun hK75=>(JLh (.dptr ((G4.cs y68).drop 2)) (Ga Ye O O O) O (JLh (BL y68.Deck) (Gh Qm O O O) O (G7 (hK75 (JCc O h (fun h hb=>?_) (fun h hb=>?_))))))
    ·
     refine G3 (Yb (G0 1) O (G7 (ej74 _ _ 1 h ⟨(.sm O O),⟨⟨_,rfl,.map⟩,ø⟩,rfl⟩)))
    ·
     refine Gi (ej74 _ _ 0 h ⟨(.sm O O),⟨⟨_,rfl,.map⟩,ø⟩,rfl⟩)
   ·intro j74 h
    replace h:=app1 hkj74 h
    refine Js fun hK76=>Rm (l':=[(1,Ef s),(3,.mp 1088),(5,Ei y68),(6,G0 j74),(31,E4 s.Columns),(32,Eo s.Columns.length),(33,Eo i68)]) (L':=[(1088,MP 141 Hc.kv G0 s68)]) ⟨(.sm O O),⟨⟨_,rfl,.map⟩,ø⟩,rfl⟩ ?_
    obtain⟨v77,hv77,h⟩:=Ge h
    obtain⟨v78,hv78,h⟩:=Hv h
    refine Jy [9,11] [0,0,0,0,0,0,0,0,0,0,1,0] [0,0,0,0,0,0,0,1,1,0,1,0] [[(1088,MP 141 Hc.kv G0 s68)],((1088,MI 141 Hc.kv G0 s68 (Hc.mk y68.Bay y68.Row j74) 0)::[(1088,MP 141 Hc.kv G0 s68)]),((1088,MP 141 Hc.kv G0 (H0.put s68 (Hc.mk y68.Bay y68.Row j74) v78))::((1088,MI 141 Hc.kv G0 s68 (Hc.mk y68.Bay y68.Row j74) 0)::[(1088,MP 141 Hc.kv G0 s68)]))] Q6 (by kernel_rfl) rfl rfl ?_
    refine Gp (u:=.mp 1088) O O ⟨Gr (G6 O O) O,ø⟩ (Gp (u:=Ei y68) O O ⟨Gr (Ga G00 O O O) O,ø⟩ (Gp (u:=G0 y68.Bay) O O ⟨Gr (Gh Gb O O O) O,ø⟩ (Gp (u:=.dptr ((G4.cs y68).drop 1)) O O ⟨Gr (Ga G55 O O O) O,ø⟩ (Gp (u:=G0 y68.Row) O O ⟨Gr (Gh Gb O O O) O,ø⟩ (Gp (u:=G0 j74) O O ⟨Gr (G6 O O) O,ø⟩ (Gp (u:=.agg [G0 y68.Bay,G0 y68.Row,G0 j74]) O O ⟨Gr (Haf (cs:=[G0 y68.Bay,G0 y68.Row,G0 j74]) [E0,E0,E0] Q00 J90 O O) O,ø⟩ (Gp (u:=G0 v77) O O ⟨Gr (((Option.some.inj hv77) ▸ Ge1 (av:=G0) (m:=s68) (a:=(Hc.mk y68.Bay y68.Row j74)) 0 E0 O O O O J70 G9e H8e O)) O,Gr (((Option.some.inj hv77) ▸ Q40 (av:=G0) (m:=s68) (a:=(Hc.mk y68.Bay y68.Row j74)) 0 E0 O O O O J70 G9e H8e O)) O,ø⟩ (Gp (u:=G0 v78) O O ⟨Gr (Hu hv78 O O O) O,Gr (Hu hv78 O O O) O,ø⟩ (D_w (u:=.tup [.junk,G0 (G1d (H0.l s68) (Hc.mk y68.Bay y68.Row j74):Int)]) O O O O (Gr (Jba (m:=s68) (a:=(Hc.mk y68.Bay y68.Row j74)) 0 E0 O O O O J70 G9e H8e O) O) (Gp (u:=G0 (G1d (H0.l s68) (Hc.mk y68.Bay y68.Row j74):Int)) O O ⟨Gr (Hk O O O) O,ø⟩ (J08 (u:=.junk) O O O O (Gr (J1d (m:=s68) (a:=(Hc.mk y68.Bay y68.Row j74)) (v:=v78) 0 O O O O O O) O) (Yd ?_))))))))))))
    refine hK76 (Jr fun hK79=>(JLh (.agg (G4.cs y68)) (Gg G74 O O O) O ?_))
    obtain⟨r80,hr80,h⟩:=Ge h
    refine JLh (BL r80) (Gv O (Q31 y68 r80 hr80) Qc0 ⟨O,O,ø⟩) O (JLh (BL (!r80)) (Rv (b:=r80) O O) O (G7 (hK79 (JCc O h (fun h hb=>?_) (fun h hb=>?_)))))
    ·
     refine Jr fun hK81=>(Yb (BL false) O (G7 (hK81 (Gs (⟨[BL false],[],ø,O,⟨⟨_,O,.conv (.same O)⟩,ø⟩,O,false,Eq.mpr (Option.some.inj h) hp,O⟩)))))
    ·
     refine Gi (hK71 (G3 (JLh (G0 ((i68+1:Nat):Int)) (Hu (Hj hk68 hm32) O O O) O (Yb (G0 ((i68+1:Nat):Int)) O (G7 (e68 _ _ (i68+1) (H0.put s68 (Hc.mk y68.Bay y68.Row j74) v78) (app1 hn68 h) (by omega) ⟨(.sm O O),⟨⟨_,rfl,.map⟩,ø⟩,rfl⟩))))))
  ·
   have h:=app1 hkx68 (Ht hi68 (Ha hb))
   refine Hm (hK6 (Js fun hK82=>Jr fun hK83=>(JLh (.dptr (Es s)) (Ga Qq O O O) O (JLh (E5 s.Covers) (Gh Rx O O O) O (JLl Qs O O O fun hm56=>(Yb (G0 0) O (G7 (hK83 (Gj ?_)))))))))
   obtain⟨b84,kx84,hb84,hkx84,h⟩:=J2 h
   refine Hb (fun i84 (s84:(H0 Hc Int))=>each b84 kx84 (List.drop i84 s.Covers) i84 s84=some p) (fun i84 s84=>[(3,.mp 1088),(55,E5 s.Covers),(56,Eo s.Covers.length),(57,Eo i84)]) (fun i84 s84=>[(1088,MP 141 Hc.kv G0 s84)]) (fun i84=>s.Covers.length - i84) 0 s68 h ⟨(.sm O O),⟨⟨_,rfl,.map⟩,ø⟩,rfl⟩ ?_
   clear h
   intro i84 s84 hi84 K84 e84
   refine Jr fun hK85=>(JLh (BL (decide ((i84:Int) < (s.Covers.length:Int)))) (J0 O O O) O (G7 (hK85 (Js fun hK86=>Gf O (fun hb=>?_) (fun hb=>?_)))))
   ·
    have hk84:=Jk hb
    obtain⟨y84,nx84,hy84,hn84,h⟩:=Hs hi84 hk84
    replace h:=Y4 hb84 h
    refine Gi (hK86 (Js fun hK87=>Gj (Jr fun hK88=>(JLh (.dptr [G0 y84.Bay,E2 y84.Rows]) (H3 (f:=G9.av) (xs:=s.Covers) (y:=y84) O O O Qs hy84 O) O (JLh (.agg [G0 y84.Bay,E2 y84.Rows]) (Gg H7b O O O) O (JLh (.ptr 1087 0) (Hx 1087 2 Gf0 O O) O (Hw (u:=.junk) (Hd (u:=.agg [G0 y84.Bay,E2 y84.Rows]) (ds:=[G0 y84.Bay,E2 y84.Rows]) Jdc O O O O O O O O) (G7 (hK88 (Gq [(3,.mp 1088),(8,.dptr [G0 y84.Bay,E2 y84.Rows]),(55,E5 s.Covers),(56,Eo s.Covers.length),(57,Eo i84)] [(1088,MP 141 Hc.kv G0 s84)] 1087 rfl rfl rfl ⟨⟨_,rfl,.map⟩,ø⟩ rfl (by repeat' (first | exact .ptr | constructor)) (Js fun hK89=>?_)))))))))))
    refine Jr fun hK90=>(JLh (.dptr [G0 y84.Bay,E2 y84.Rows]) (Ga G87 O O O) O (JLh (G0 y84.Bay) (Gh Gb O O O) O (JLh (BL (decide (y84.Bay < 0))) (J0 O O O) O (Yb (BL (decide (y84.Bay < 0))) O (JLo (.dptr [G0 y84.Bay,E2 y84.Rows]) [] O .scf ø (fun hc=>Ga G87 O O O) O (JLo (G0 y84.Bay) [65] O .scf ⟨Ua,ø⟩ (fun hc=>Gh Gb O O O) O (JLo (BL (decide (40≤y84.Bay))) [66] O .scf ⟨Ua,ø⟩ (fun hc=>G2f O O O) O (JLh (BL ((decide (y84.Bay < 0))||(decide (40≤y84.Bay)))) (G0b O O O O) O (Yb (BL ((decide (y84.Bay < 0))||(decide (40≤y84.Bay)))) O (JLo (.dptr [E2 y84.Rows]) [] O .scf ø (fun hc=>Ga Ge4 O O O) O (JLo (E2 y84.Rows) [70] O .scf ⟨Ua,ø⟩ (fun hc=>Gh Z3 O O O) O (JLo (Eo y84.Rows.length) [71] O .scf ⟨Ua,ø⟩ (fun hc=>Yv (f:=G0) (xs:=y84.Rows) Gt O O) O (JLo (BL (decide ((y84.Rows.length:Int)=0))) [72] O .scf ⟨Ua,ø⟩ (fun hc=>Jz O O O) O ?_)))))))))))))
    refine JLh (BL (((decide (y84.Bay < 0))||(decide (40≤y84.Bay)))||(decide ((y84.Rows.length:Int)=0)))) (G0b O O O O) O (G7 (hK90 (JCc O h (fun h hb=>?_) (fun h hb=>?_))))
    ·
     refine Jr fun hK91=>(Yb (BL false) O (G7 (hK91 (Gs (⟨[BL false],[],ø,O,⟨⟨_,O,.conv (.same O)⟩,ø⟩,O,false,Eq.mpr (Option.some.inj h) hp,O⟩)))))
    ·
     refine Gi (hK89 (Jr fun hK92=>(JLh (.dptr [E2 y84.Rows]) (Ga Ge4 O O O) O (JLh (E2 y84.Rows) (Gh Z3 O O O) O (JLl Gt O O O fun hm77=>(Yb (G0 0) O (G7 (hK92 (Gj ?_)))))))))
     obtain⟨b157,kx157,hb157,hkx157,h⟩:=J2 h
     refine Hb (fun i157 (s157:(H0 Hc Int))=>each b157 kx157 (List.drop i157 y84.Rows) i157 s157=some p) (fun i157 s157=>[(3,.mp 1088),(8,.dptr [G0 y84.Bay,E2 y84.Rows]),(55,E5 s.Covers),(56,Eo s.Covers.length),(57,Eo i84),(76,E2 y84.Rows),(77,Eo y84.Rows.length),(78,Eo i157)]) (fun i157 s157=>[(1088,MP 141 Hc.kv G0 s157)]) (fun i157=>y84.Rows.length - i157) 0 s84 h ⟨(.sm O O),⟨⟨_,rfl,.map⟩,ø⟩,rfl⟩ ?_
     clear h
     intro i157 s157 hi157 K157 e157
     refine Jr fun hK158=>(JLh (BL (decide ((i157:Int) < (y84.Rows.length:Int)))) (J0 O O O) O (G7 (hK158 (Js fun hK159=>Gf O (fun hb=>?_) (fun hb=>?_)))))
     ·
      have hk157:=Jk hb
      obtain⟨y157,nx157,hy157,hn157,h⟩:=Hs hi157 hk157
      replace h:=Y4 hb157 h
      refine Gi (hK159 (Js fun hK160=>Gj (Jr fun hK161=>(Yb (Eo i157) O (JLh (.dptr [G0 y157]) (H3 (f:=G0) (xs:=y84.Rows) (y:=y157) O O O Gt hy157 O) O (JLh (G0 y157) (Gh Gb O O O) O (Yb (Eo i157) O (Yb (G0 y157) O (G7 (hK161 (Js fun hK162=>?_)))))))))))
      refine Jr fun hK163=>(Yb (G0 y157) O (JLh (BL (decide (y157 < 0))) (J0 O O O) O (Yb (BL (decide (y157 < 0))) O (JLo (G0 y157) [] O .scf ø (fun hc=>G6 O O) O (JLo (BL (decide (30 < y157))) [86] O .scf ⟨Ua,ø⟩ (fun hc=>G43 O O O) O (JLh (BL ((decide (y157 < 0))||(decide (30 < y157)))) (G0b O O O O) O (Yb (BL ((decide (y157 < 0))||(decide (30 < y157)))) O (JLo (Eo i157) [] O .scf ø (fun hc=>G6 O O) O (JLo (BL (decide (0 < (i157:Int)))) [90] O .scf ⟨Ua,ø⟩ (fun hc=>G43 O O O) O (JLo (BL (decide (0 < (i157:Int)))) [91] O .scf ⟨Ua,ø⟩ (fun hc=>G6 O O) O (JLo (G0 y157) [] O .optt ø (fun hc=>G6 O O) O (JLo (.dptr [E2 y84.Rows]) [] O .optt ø (fun hc=>Ga Ge4 O O O) O (JLo (E2 y84.Rows) [94] O .optt ⟨Ua,ø⟩ (fun hc=>Gh Z3 O O O) O ?_)))))))))))))
      refine JLo (Eo i157) [] O .optt ø (fun hc=>G6 O O) O ?_
      obtain⟨v164,hv164,h⟩:=Ge h
      refine JLo (G0 v164) [96] O .optt ⟨Ua,ø⟩ (fun hc=>Zn (G8d (Gx hc hv164)) O O O) O ?_
      obtain⟨y165,hy165,h⟩:=Ge h
      refine JLo (.dptr [G0 y165]) [95,97] O .optt ⟨Ua,Ua,ø⟩ (fun hc=>(match Yz (Gx hc hy165) with | ⟨_,hm_,hy_⟩=>H3 (f:=G0) (xs:=y84.Rows) (y:=y165) O O O Gt hy_ hm_)) O (JLo (G0 y165) [98] O .optt ⟨Ua,ø⟩ (fun hc=>Gh Gb O O O) O (JLo (BL (decide (y157≤y165))) [93,99] O .optt ⟨Ua,Ua,ø⟩ (fun hc=>H4a O O O) O (Gc (u:=BL ((decide (0 < (i157:Int)))&&(decide (y157≤y165)))) [(92,BL (decide (0 < (i157:Int)))),(100,_)] O O O .scf ⟨.all id,.part,ø⟩ (fun hc=>Qr O O O O) ?_)))
      refine JLh (BL (((decide (y157 < 0))||(decide (30 < y157)))||((decide (0 < (i157:Int)))&&(decide (y157≤y165))))) (G0b O O O O) O (G7 (hK163 (JCc O h (fun h hb=>?_) (fun h hb=>?_))))
      ·
       refine Jr fun hK166=>(Yb (BL false) O (G7 (hK166 (Gs (⟨[BL false],[],ø,O,⟨⟨_,O,.conv (.same O)⟩,ø⟩,O,false,Eq.mpr (Option.some.inj h) hp,O⟩)))))
      ·
       refine Gi (hK162 (Rm (l':=[(3,.mp 1088),(8,.dptr [G0 y84.Bay,E2 y84.Rows]),(10,G0 y157),(55,E5 s.Covers),(56,Eo s.Covers.length),(57,Eo i84),(76,E2 y84.Rows),(77,Eo y84.Rows.length),(78,Eo i157)]) (L':=[(1088,MP 141 Hc.kv G0 s157)]) ⟨(.sm O O),⟨⟨_,rfl,.map⟩,ø⟩,rfl⟩ ?_))
       obtain⟨v167,hv167,h⟩:=Ge h
       obtain⟨v168,hv168,h⟩:=Hv h
       refine Jy [7,9] [0,0,0,0,0,0,0,0,1,0] [0,0,0,0,0,1,1,0,1,0] [[(1088,MP 141 Hc.kv G0 s157)],((1088,MI 141 Hc.kv G0 s157 (Hc.mk y84.Bay y157 2) 0)::[(1088,MP 141 Hc.kv G0 s157)]),((1088,MP 141 Hc.kv G0 (H0.put s157 (Hc.mk y84.Bay y157 2) v168))::((1088,MI 141 Hc.kv G0 s157 (Hc.mk y84.Bay y157 2) 0)::[(1088,MP 141 Hc.kv G0 s157)]))] Q6 (by kernel_rfl) rfl rfl ?_
       refine Gp (u:=.mp 1088) O O ⟨Gr (G6 O O) O,ø⟩ (Gp (u:=.dptr [G0 y84.Bay,E2 y84.Rows]) O O ⟨Gr (Ga G87 O O O) O,ø⟩ (Gp (u:=G0 y84.Bay) O O ⟨Gr (Gh Gb O O O) O,ø⟩ (Gp (u:=G0 y157) O O ⟨Gr (G6 O O) O,ø⟩ (Gp (u:=.agg [G0 y84.Bay,G0 y157,G0 2]) O O ⟨Gr (Haf (cs:=[G0 y84.Bay,G0 y157,G0 2]) [E0,E0,E0] Q00 J90 O O) O,ø⟩ (Gp (u:=G0 v167) O O ⟨Gr (((Option.some.inj hv167) ▸ Ge1 (av:=G0) (m:=s157) (a:=(Hc.mk y84.Bay y157 2)) 0 E0 O O O O J70 G9e H8e O)) O,Gr (((Option.some.inj hv167) ▸ Q40 (av:=G0) (m:=s157) (a:=(Hc.mk y84.Bay y157 2)) 0 E0 O O O O J70 G9e H8e O)) O,ø⟩ (Gp (u:=G0 v168) O O ⟨Gr (Hu hv168 O O O) O,Gr (Hu hv168 O O O) O,ø⟩ (D_w (u:=.tup [.junk,G0 (G1d (H0.l s157) (Hc.mk y84.Bay y157 2):Int)]) O O O O (Gr (Jba (m:=s157) (a:=(Hc.mk y84.Bay y157 2)) 0 E0 O O O O J70 G9e H8e O) O) (Gp (u:=G0 (G1d (H0.l s157) (Hc.mk y84.Bay y157 2):Int)) O O ⟨Gr (Hk O O O) O,ø⟩ (J08 (u:=.junk) O O O O (Gr (J1d (m:=s157) (a:=(Hc.mk y84.Bay y157 2)) (v:=v168) 0 O O O O O O) O) (Yd ?_))))))))))
       refine hK160 (G3 (JLh (G0 ((i157+1:Nat):Int)) (Hu (Hj hk157 hm77) O O O) O (Yb (G0 ((i157+1:Nat):Int)) O (G7 (e157 _ _ (i157+1) (H0.put s157 (Hc.mk y84.Bay y157 2) v168) (app1 hn157 h) (by omega) ⟨(.sm O O),⟨⟨_,rfl,.map⟩,ø⟩,rfl⟩)))))
     ·
      have h:=app1 hkx157 (Ht hi157 (Ha hb))
      refine Hm (hK87 (G3 (JLh (G0 ((i84+1:Nat):Int)) (Hu (Hj hk84 hm56) O O O) O (Yb (G0 ((i84+1:Nat):Int)) O (G7 (e84 _ _ (i84+1) s157 (app1 hn84 h) (by omega) ⟨(.sm O O),⟨⟨_,rfl,.map⟩,ø⟩,rfl⟩))))))
   ·
    have h:=app1 hkx84 (Ht hi84 (Ha hb))
    refine Hm (hK82 (Js fun hK169=>Jr fun hK170=>(Yb (.mp 1088) O (JLh (.it 1089) (Q9f 1089 (m:=s84) O O O O G9e) O (G7 (hK170 (Gj ?_)))))))
    obtain⟨b176,kx176,hb176,hkx176,h⟩:=eachM_in h
    refine Q99 (H0.size s84) (fun i176 (s176:Unit)=>MInv b176 kx176 (H0.l s84) i176 s176) (fun i176 s176=>[(115,.it 1089)]) (fun i176 s176=>[(1088,MP 141 Hc.kv G0 s84),(1089,.iter 1088 (H0.size s84) i176)]) () (MInv.start h hp) ⟨⟨.same O,ø⟩,⟨⟨_,O,.map⟩,⟨_,O,.iter O⟩,ø⟩,O⟩ ?_
    clear h hp
    intro i176 s176 hi176 K176 e176
    refine Jr fun hK177=>G5f O O O (A_nextM (m:=s84) O O O O) ?_
    intro u_ L_ hn_
    rcases hn_ with ⟨q176,x176,he176,hs176,rfl,rfl⟩ | ⟨ha176,rfl,rfl⟩
    ·
     obtain⟨o176,h,ho1_176,ho2_176⟩:=hi176.step he176 hs176
     replace h:=app3 hb176 h
     refine JLh (BL true) (Hk O O O) O (G7 (hK177 (Js fun hK178=>Q9a O (Gi (hK178 (Gj (Jr fun hK179=>(JLh (.tup [.agg (Hc.cs x176.1),G0 x176.2]) (Qa2 (kv:=Hc.kv) (av:=G0) (m:=s84) (q:=q176) (seen:=i176) (e:=x176) O O O O he176) O (JLh (G0 x176.2) (Hk O O O) O (Yb (G0 x176.2) O (G7 (hK179 (Jr fun hK180=>(Yb (G0 x176.2) O (JLh (BL (decide (1 < x176.2))) (G43 O O O) O (G7 (hK180 (JCc O h (fun h hb=>?_) (fun h hb=>?_)))))))))))))))))))
     ·
      refine Jr fun hK181=>(Yb (BL false) O (G7 (hK181 (Gs ?_))))
      obtain⟨y_,hy_,hl_⟩:=lft_out h
      exact⟨[BL false],[],ø,O,⟨⟨_,O,.conv (.same O)⟩,ø⟩,O,false,Eq.mpr (Option.some.inj hl_) (ho1_176 y_ hy_),O⟩
     ·
      refine Gi (e176 _ _ (i176++[q176]) () (ho2_176 _ (Option.some.inj h).symm) (unseen_lt (List.getElem?_eq_some_iff.1 he176).1 hs176) ⟨⟨.same O,ø⟩,⟨⟨_,O,.map⟩,⟨_,O,.iter O⟩,ø⟩,O⟩)
    ·
     obtain⟨p_,h,hp⟩:=hi176.done ha176
     replace h:=app1 hkx176 h
     refine JLh (BL false) (Hk O O O) O (G7 (hK177 (Js fun hK182=>Q3a O (Hm (hK169 (Jr fun hK183=>(Yb (BL true) O (G7 (hK183 (Gs (⟨[BL true],[],ø,O,⟨⟨_,O,.conv (.same O)⟩,ø⟩,O,true,Eq.mpr (Option.some.inj h) hp,O⟩)))))))))))
theorem Q34 (S_:(Gw)→Option Bool) (hS_:∀ s r,S_ s=some r→∃ p:Prop,Gc6 s (fun r_=>r_=r)=some p∧p) (s:Gw) (r:Bool) (h:S_ s=some r):Pure Ep 29 [.agg (Gw.cs s)] (·=BL r):=by
 obtain⟨p,h1,h2⟩:=hS_ s r h
 exact(Q33 s _ p h1 h2).monoP (fun av hh=>by obtain⟨r_,rfl,ha⟩:=hh; exact ha)

def G2c (size:Int):Option (List Int):=
 bif decide (size=40) then
 (some [0])
 else
 (bif decide (size=20) then
  (some [1,2])
  else
  (some []))
theorem Hb5 (size:Int) (r:(List Int)) (h:G2c size=some r):Pure Ep 84 [U8 size] (·=Eb r):=by
 unfold G2c at h
 refine Gz [.tmp 2] Tryz.func84 O O (Jr fun hK1=>(JLh (Eb ([]:List Int)) (Hf 1 O O) O (G7 (hK1 (Js fun hK2=>Jr fun hK3=>(Yb (U8 size) O (G7 (hK3 (Gj (Jr fun hK4=>(JLh (BL (decide (size=40))) (Jz O O O) O (Yb (BL (decide (size=40))) O (G7 (hK4 (JCc O h (fun h hb=>?_) (fun h hb=>?_))))))))))))))))
 ·
  refine Jr fun hK5=>(JLh (Eb [0]) (H6 (xs:=[U8 0]) O ⟨O,O,ø⟩ G73 Jdb O O O O) O (Yb (Eb [0]) O (G7 (hK5 (Gs (fin1 (fun r:(List Int)=>(Eb r:AV)) h))))))
 ·
  refine Jr fun hK6=>(JLh (BL (decide (size=20))) (Jz O O O) O (Yb (BL (decide (size=20))) O (G7 (hK6 (JCc O h (fun h hb=>?_) (fun h hb=>?_))))))
  ·
   refine Jr fun hK7=>(JLh (Eb [1,2]) (H6 (xs:=[U8 1,U8 2]) O ⟨O,O,O,O,ø⟩ G73 Jdb O O O O) O (Yb (Eb [1,2]) O (G7 (hK7 (Gs (fin1 (fun r:(List Int)=>(Eb r:AV)) h))))))
  ·
   refine Gi (hK2 (Jr fun hK8=>(JLh (Eb ([]:List Int)) (Hf 1 O O) O (G7 (hK8 (Gs (fin1 (fun r:(List Int)=>(Eb r:AV)) h)))))))

def Gc4 (p1:Gw) (p2:Int) (ys_:List Slot):Option Unit:=
 each (fun y2 i2 (s2:Nat) nx2=>
  need (decide ((max y2.Tiers 0)≤9223372036854775807)) <|
  upto (fun i8 (s8:Nat) nx8=>
   bnd (G2c p2) fun r14=>
   each (fun y29 i29 (s29:Nat) nx29=>
    need (decide (ys_[s29]? = some (Slot.mk (i2:Int) (i8:Int) y29))) <|
    nx29 (s29+1))
   (fun(s29:Nat)=>
    nx8 s29) r14 0 s8)
  (fun(s8:Nat)=>
   nx2 s8) (max y2.Tiers 0).toNat 0 s2)
 (fun(s2:Nat)=>
  need (decide (s2=ys_.length)) (some ())) p1.Columns 0 0
theorem J83 (p1:Gw) (p2:Int) (ys_:List Slot) (q_:Unit) (h:Gc4 p1 p2 ys_=some q_):Iter Ep 95 [.dptr (Gw.cs p1),.dptr [U8 p2]] (ys_.map (fun y:Slot=>[.agg [G0 y.G4,G0 y.Tier,U8 y.Half]])):=by
 unfold Gc4 at h
 refine Iter_of Tryz.func95 O O ?_
 intro E hE hys
 refine G85 (fun K1 hK1=>G0a (R4 (u:=Ef p1) hE (Ga J6 O O O) ?_ O O O O))
 refine R4 (u:=E4 p1.Columns) hE (Gh Jj O O O) ?_ O O O O
 refine Q97 hE (f:=G4.av) (xs:=p1.Columns) Je O O (fun hm11=>?_) O O O
 refine R4 (u:=G0 0) hE (G6 O O) ?_ O O O O
 refine G7f ?_
 refine hK1 _ _ _ (H89 ?_)
 obtain⟨b2,kx2,hb2,hkx2,h⟩:=J2 h
 refine Q39 (fun i2 (s2:Nat)=>each b2 kx2 (List.drop i2 p1.Columns) i2 s2=some q_) (fun i2 s2=>[(0,.sc (.func (.yield E.lp) #[] #[])),(2,.dptr [U8 p2]),(10,E4 p1.Columns),(11,Eo p1.Columns.length),(12,Eo i2)]) (fun i2 s2=>[]) (fun i2 s2=>s2) (fun i2=>p1.Columns.length - i2) 0 0 h ⟨(.sm O O),ø,rfl⟩ rfl ?_
 clear h
 intro i2 s2 hi2 K2 e2
 refine G85 (fun K3 hK3=>G0a (R4 (u:=BL (decide ((i2:Int) < (p1.Columns.length:Int)))) hE (J0 O O O) ?_ O O O O))
 refine G7f ?_
 refine hK3 _ _ _ (G85 (fun K4 hK4=>J68 O (fun hb=>?_) (fun hb=>?_)))
 ·
  have hk2:=Jk hb
  obtain⟨y2,nx2,hy2,hn2,h⟩:=Hs hi2 hk2
  replace h:=Y4 hb2 h
  refine Jd4 (hK4 _ _ _ (G85 (fun K5 hK5=>H89 (G85 (fun K6 hK6=>G0a (R4 (u:=Eo i2) hE (G6 O O) ?_ O O O O))))))
  refine R4 (u:=Ei y2) hE (H3 (f:=G4.av) (xs:=p1.Columns) (y:=y2) O O O Je hy2 O) ?_ O O O O
  refine R4 (u:=.agg (G4.cs y2)) hE (Gg G74 O O O) ?_ O O O O
  refine R4 (u:=.ptr 1161 0) hE (Hx 1161 12 G3f O O) ?_ O O O O
  refine R4 (u:=Eo i2) hE (G8 O O) ?_ O O O O
  refine JIL_go0 (u:=.junk) hE (Hd (u:=.agg (G4.cs y2)) (ds:=(G4.cs y2)) H24 O O O O O O O O) ?_ O O O
  refine G7f ?_
  refine hK6 _ _ _ (G85 (fun K7 hK7=>G0a (R4 (u:=.ptr 1161 3) hE (Jp Ge5 O O) ?_ O O O O)))
  refine R4 (u:=G0 y2.Tiers) hE (Qu Gb O O O O) ?_ O O O O
  refine R4 (u:=G0 (max y2.Tiers 0)) hE (A_max O O O) ?_ O O O O
  refine R4 (u:=G0 0) hE (G6 O O) ?_ O O O O
  refine G7f ?_
  refine hK7 _ _ _ (H89 ?_)
  obtain⟨hx8,h⟩:=Jd h
  obtain⟨b8,kx8,hb8,hkx8,h⟩:=H52 h
  refine Q39 (fun i8 (s8:Nat)=>upto b8 kx8 ((max y2.Tiers 0).toNat - i8) i8 s8=some q_) (fun i8 s8=>[(0,.sc (.func (.yield E.lp) #[] #[])),(2,.dptr [U8 p2]),(4,Eo i2),(10,E4 p1.Columns),(11,Eo p1.Columns.length),(12,Eo i2),(19,G0 (max y2.Tiers 0)),(20,Eo i8)]) (fun i8 s8=>[(1161,.box 65 (G4.cs y2))]) (fun i8 s8=>s8) (fun i8=>(max y2.Tiers 0).toNat - i8) 0 s2 h ⟨(.sm O O),⟨⟨_,rfl,.boxL rfl (.sm O O)⟩,ø⟩,rfl⟩ rfl ?_
  clear h
  intro i8 s8 hi8 K8 e8
  refine G85 (fun K9 hK9=>G0a (R4 (u:=BL (decide ((i8:Int) < (max y2.Tiers 0)))) hE (J0 O O O) ?_ O O O O))
  refine G7f ?_
  refine hK9 _ _ _ (G85 (fun K10 hK10=>J68 O (fun hb=>?_) (fun hb=>?_)))
  ·
   have hk8:=Gf4 hb
   obtain⟨nx8,hn8,h⟩:=Gee hi8 hk8
   replace h:=app3 hb8 h
   refine Jd4 (hK10 _ _ _ (G85 (fun K11 hK11=>H89 (G85 (fun K12 hK12=>G0a (R4 (u:=Eo i8) hE (G6 O O) ?_ O O O O))))))
   refine R4 (u:=Eo i8) hE (G8 O O) ?_ O O O O
   refine G7f ?_
   refine hK12 _ _ _ (G85 (fun K13 hK13=>G0a (R4 (u:=U8 p2) hE (Gh Hz O O O) ?_ O O O O)))
   obtain⟨r14,hr14,h⟩:=Ge h
   refine R4 (u:=Eb r14) hE (Gv O (Hb5 p2 r14 hr14) Jef ⟨O,O,ø⟩) ?_ O O O O
   refine Q97 hE (f:=U8) (xs:=r14) G73 O O (fun hm25=>?_) O O O
   refine R4 (u:=G0 0) hE (G6 O O) ?_ O O O O
   refine G7f ?_
   refine hK13 _ _ _ (H89 ?_)
   obtain⟨b29,kx29,hb29,hkx29,h⟩:=J2 h
   refine Q39 (fun i29 (s29:Nat)=>each b29 kx29 (List.drop i29 r14) i29 s29=some q_) (fun i29 s29=>[(0,.sc (.func (.yield E.lp) #[] #[])),(2,.dptr [U8 p2]),(4,Eo i2),(6,Eo i8),(10,E4 p1.Columns),(11,Eo p1.Columns.length),(12,Eo i2),(19,G0 (max y2.Tiers 0)),(20,Eo i8),(24,Eb r14),(25,Eo r14.length),(26,Eo i29)]) (fun i29 s29=>[(1161,.box 65 (G4.cs y2))]) (fun i29 s29=>s29) (fun i29=>r14.length - i29) 0 s8 h ⟨(.sm O O),⟨⟨_,rfl,.boxL rfl (.sm O O)⟩,ø⟩,rfl⟩ rfl ?_
   clear h
   intro i29 s29 hi29 K29 e29
   refine G85 (fun K30 hK30=>G0a (R4 (u:=BL (decide ((i29:Int) < (r14.length:Int)))) hE (J0 O O O) ?_ O O O O))
   refine G7f ?_
   refine hK30 _ _ _ (G85 (fun K31 hK31=>J68 O (fun hb=>?_) (fun hb=>?_)))
   ·
    have hk29:=Jk hb
    obtain⟨y29,nx29,hy29,hn29,h⟩:=Hs hi29 hk29
    replace h:=Y4 hb29 h
    refine Jd4 (hK31 _ _ _ (G85 (fun K32 hK32=>H89 (G85 (fun K33 hK33=>G0a (R4 (u:=.dptr [U8 y29]) hE (H3 (f:=U8) (xs:=r14) (y:=y29) O O O G73 hy29 O) ?_ O O O O))))))
    refine R4 (u:=U8 y29) hE (Gh Hz O O O) ?_ O O O O
    refine R4 (u:=U8 y29) hE (G8 O O) ?_ O O O O
    refine G7f ?_
    refine hK33 _ _ _ (G85 (fun K34 hK34=>G0a (R4 (u:=.sc (.func (.yield E.lp) #[] #[])) hE (G6 O O) ?_ O O O O)))
    refine R4 (u:=Eo i2) hE (G6 O O) ?_ O O O O
    refine R4 (u:=Eo i8) hE (G6 O O) ?_ O O O O
    refine R4 (u:=U8 y29) hE (G6 O O) ?_ O O O O
    refine R4 (u:=.agg [Eo i2,Eo i8,U8 y29]) hE (J3 (cs:=[Eo i2,Eo i8,U8 y29]) [(0,1),(1,1),(2,1)] [G0 0,G0 0,U8 0] [E0,E0,.int .u8 0] H11 H22 ⟨.inl O,.inl O,.inl O,ø⟩ O O) ?_ O O O O
    obtain⟨ha35,h⟩:=Jd h
    refine JIL_yield (us:=[.agg [Eo i2,Eo i8,U8 y29]]) hE O O ⟨O,O,ø⟩ (yld_at (f:=(fun y:Slot=>[.agg [G0 y.G4,G0 y.Tier,U8 y.Half]])) (x:=(Slot.mk (i2:Int) (i8:Int) y29)) hys ha35) ?_ O O O
    refine R4 (u:=BL false) hE (Rv (b:=true) O O) ?_ O O O O
    refine G7f ?_
    refine hK34 _ _ _ (JI_condF O (Jd4 (hK32 _ _ _ (G0a (R4 (u:=G0 ((i29+1:Nat):Int)) hE (Hu (Hj hk29 hm25) O O O) ?_ O O O O)))))
    refine R4 (u:=G0 ((i29+1:Nat):Int)) hE (G6 O O) ?_ O O O O
    refine G7f ?_
    exact e29 _ _ (i29+1) (s29+1) _ (app1 hn29 h) (by omega) ⟨(.sm O O),⟨⟨_,rfl,.boxL rfl (.sm O O)⟩,ø⟩,rfl⟩ rfl
   ·
    have h:=app1 hkx29 (Ht hi29 (Ha hb))
    refine JI_exit (hK11 _ _ _ (G0a (R4 (u:=G0 ((i8+1:Nat):Int)) hE (Hu (Hj hk8 (Ga3 hx8)) O O O) ?_ O O O O)))
    refine R4 (u:=G0 ((i8+1:Nat):Int)) hE (G6 O O) ?_ O O O O
    refine G7f ?_
    exact e8 _ _ (i8+1) s29 _ (app1 hn8 h) (by omega) ⟨(.sm O O),⟨⟨_,rfl,.boxL rfl (.sm O O)⟩,ø⟩,rfl⟩ rfl
  ·
   have h:=app1 hkx8 (Gef hi8 (G1c hb))
   refine JI_exit (hK5 _ _ _ (G0a (R4 (u:=G0 ((i2+1:Nat):Int)) hE (Hu (Hj hk2 hm11) O O O) ?_ O O O O)))
   refine R4 (u:=G0 ((i2+1:Nat):Int)) hE (G6 O O) ?_ O O O O
   refine G7f ?_
   exact e2 _ _ (i2+1) s8 _ (app1 hn2 h) (by omega) ⟨(.sm O O),ø,rfl⟩ rfl
 ·
  have h:=app1 hkx2 (Ht hi2 (Ha hb))
  refine JI_exit (yld_end (Jd h).1)
theorem J84 (S_:(Gw)→(Int)→Option (List Slot)) (hS_:∀ p1 p2 r,S_ p1 p2=some r→Gc4 p1 p2 r=some ()) (p1:Gw) (p2:Int) (r:List Slot) (h:S_ p1 p2=some r):Iter Ep 95 [.dptr (Gw.cs p1),.dptr [U8 p2]] (r.map (fun y:Slot=>[.agg [G0 y.G4,G0 y.Tier,U8 y.Half]])):=J83 p1 p2 r () (hS_ p1 p2 r h)
end
end Go.Proofs.YtknalejjpofoaaaGreat
