/-
 Models of functions of the program,and that they return what the models say.
-/
import Derived.Test.YtpgkkengffpnpaaGreatSortLay
import Derived.Test.YtpgkkengffpnpaaGreatVown
set_option linter.unnecessarySimpa false
set_option maxRecDepth 100000
set_option maxHeartbeats 1000000
set_option linter.unusedVariables false
set_option linter.unusedSimpArgs false
namespace Go.Proofs.YtpgkkengffpnpaaGreat
open Go.RowKit
noncomputable section
abbrev Ek:=Tryz.prog
structure Hd where
 n:Int
 low:Int
 high:Int
 deriving DecidableEq,Inhabited
def Hd.cs (x:Hd):List AV:=[G0 x.n,G0 x.low,G0 x.high]
def Hd.av (x:Hd):AV:=.agg x.cs
structure G4 where
 Bay:Int
 Row:Int
 Deck:Bool
 Tiers:Int
 Height:Int
 Kilos20:Int
 Kilos40:Int
 Lash:Int
 Plugs:List Int
 X:Int
 Y:Int
 Z:Int
 deriving DecidableEq,Inhabited
def G4.cs (x:G4):List AV:=[G0 x.Bay,G0 x.Row,BL x.Deck,G0 x.Tiers,G0 x.Height,G0 x.Kilos20,G0 x.Kilos40,G0 x.Lash,E0 x.Plugs,G0 x.X,G0 x.Y,G0 x.Z]
def G4.av (x:G4):AV:=.agg x.cs
abbrev Ee (x:G4):AV:=.dptr (G4.cs x)
abbrev E3:=LS 12 G4.av
structure Ga where
 Bay:Int
 Rows:List Int
 deriving DecidableEq,Inhabited
def Ga.cs (x:Ga):List AV:=[G0 x.Bay,E0 x.Rows]
def Ga.av (x:Ga):AV:=.agg x.cs
abbrev E8:=LS 2 Ga.av
structure Light where
 Kilos:Int
 X:Int
 Y:Int
 Z:Int
 deriving DecidableEq,Inhabited
def Light.cs (x:Light):List AV:=[G0 x.Kilos,G0 x.X,G0 x.Y,G0 x.Z]
def Light.av (x:Light):AV:=.agg x.cs
structure Row where
 Draught:Int
 Kilos:Int
 Buoy:Int
 Metacentre:Int
 Turn:Int
 deriving DecidableEq,Inhabited
def Row.cs (x:Row):List AV:=[G0 x.Draught,G0 x.Kilos,G0 x.Buoy,G0 x.Metacentre,G0 x.Turn]
def Row.av (x:Row):AV:=.agg x.cs
abbrev E5:=LS 5 Row.av
structure Frame where
 X:Int
 Light:Int
 Share:Int
 Shear:Int
 Bend:Int
 deriving DecidableEq,Inhabited
def Frame.cs (x:Frame):List AV:=[G0 x.X,G0 x.Light,G0 x.Share,G0 x.Shear,G0 x.Bend]
def Frame.av (x:Frame):AV:=.agg x.cs
abbrev E6:=LS 5 Frame.av
structure Gk where
 Kilos:Int
 X:Int
 Y:Int
 Z:Int
 Surface:Int
 Steps:List Int
 deriving DecidableEq,Inhabited
def Gk.cs (x:Gk):List AV:=[G0 x.Kilos,G0 x.X,G0 x.Y,G0 x.Z,G0 x.Surface,E0 x.Steps]
def Gk.av (x:Gk):AV:=.agg x.cs
abbrev E7:=LS 6 Gk.av
structure G2 where
 Tolerance:Int
 Trim:Int
 List_:Int
 Stability:Int
 deriving DecidableEq,Inhabited
def G2.cs (x:G2):List AV:=[G0 x.Tolerance,G0 x.Trim,G0 x.List_,G0 x.Stability]
def G2.av (x:G2):AV:=.agg x.cs
structure Gp where
 Columns:List G4
 Covers:List Ga
 Light:Light
 Rows:List Row
 Frames:List Frame
 Tanks:List Gk
 G2:G2
 deriving DecidableEq,Inhabited
def Gp.cs (x:Gp):List AV:=[E3 x.Columns,E8 x.Covers,G0 x.Light.Kilos,G0 x.Light.X,G0 x.Light.Y,G0 x.Light.Z,E5 x.Rows,E6 x.Frames,E7 x.Tanks,G0 x.G2.Tolerance,G0 x.G2.Trim,G0 x.G2.List_,G0 x.G2.Stability]
def Gp.av (x:Gp):AV:=.agg x.cs
abbrev Ec (x:Gp):AV:=.dptr (Gp.cs x)
structure Ha where
 e0:Int
 e1:Int
 e2:Int
 deriving DecidableEq,Inhabited
def Ha.cs (x:Ha):List AV:=[G0 x.e0,G0 x.e1,G0 x.e2]
def Ha.av (x:Ha):AV:=.agg x.cs
def Ha.ks (x:Ha):List Value:=[.int .i64 x.e0,.int .i64 x.e1,.int .i64 x.e2]
def Ha.kv (x:Ha):Value:=.agg x.ks.toArray
structure Slot where
 G4:Int
 Tier:Int
 Half:Int
 deriving DecidableEq,Inhabited
def Slot.cs (x:Slot):List AV:=[G0 x.G4,G0 x.Tier,U8 x.Half]
def Slot.av (x:Slot):AV:=.agg x.cs
abbrev Eh (x:Slot):AV:=.dptr (Slot.cs x)
abbrev E4:=LS 3 Slot.av
namespace XAF
theorem tq_127 (a b:Ha):Ha7 Ek 4 127 [.int .i64 a.e0,.int .i64 a.e1,.int .i64 a.e2] [.int .i64 b.e0,.int .i64 b.e1,.int .i64 b.e2]=some (decide (a=b)):=by
 refine(show _=some ((a.e0==b.e0)&&((a.e1==b.e1)&&((a.e2==b.e2)&&true))) by kernel_rfl).trans (congrArg some ?_)
 rw [Bool.eq_iff_iff]
 simp only [Bool.and_eq_true,beq_iff_eq,decide_eq_true_eq,Bool.and_true]
 constructor
 ·intro h; obtain⟨_,_,_⟩:=a; obtain⟨_,_,_⟩:=b; simp_all
 ·intro h; subst h; simp
theorem G3a:Gba Ek 110 12=true:=by kernel_rfl
theorem Gd5:Gba Ek 113 2=true:=by kernel_rfl
theorem Q0c:Gba Ek 163 3=true:=by kernel_rfl
theorem J68:arrB Ek 127 3 1=true:=by kernel_rfl
theorem Jfa:Hk Ek 63=true:=by kernel_rfl
theorem J55:Hk Ek 67=true:=by kernel_rfl
theorem J4f:Hk Ek 99=true:=by kernel_rfl
theorem G0c:Jt Ek 110 0 0=true:=by kernel_rfl
theorem G0b:Jt Ek 110 1 1=true:=by kernel_rfl
theorem H34:Jt Ek 110 10 10=true:=by kernel_rfl
theorem Gb5:Jt Ek 110 11 11=true:=by kernel_rfl
theorem Yo:Jt Ek 110 2 2=true:=by kernel_rfl
theorem G81:Jt Ek 110 3 3=true:=by kernel_rfl
theorem H46:Jt Ek 110 4 4=true:=by kernel_rfl
theorem J4a:Jt Ek 110 5 5=true:=by kernel_rfl
theorem J49:Jt Ek 110 6 6=true:=by kernel_rfl
theorem J48:Jt Ek 110 7 7=true:=by kernel_rfl
theorem H45:Jt Ek 110 8 8=true:=by kernel_rfl
theorem H44:Jt Ek 110 9 9=true:=by kernel_rfl
theorem G80:Jt Ek 113 0 0=true:=by kernel_rfl
theorem G7f:Jt Ek 113 1 1=true:=by kernel_rfl
theorem H43:Jt Ek 163 0 0=true:=by kernel_rfl
theorem J47:Jt Ek 163 1 1=true:=by kernel_rfl
theorem J46:Jt Ek 163 2 2=true:=by kernel_rfl
theorem Jc:Jt Ek 35 0 0=true:=by kernel_rfl
theorem R3:Jt Ek 35 1 1=true:=by kernel_rfl
theorem G6b:G7b Ek 126 127 3=true:=by kernel_rfl
theorem Qg:Ek.follows .mixedOrders=true:=by kernel_rfl
theorem Rg:placesOf Ek 163=some [(0,1),(1,1),(2,1)]:=by kernel_rfl
theorem G1b:placesOf Ek 47=some [(0,1),(1,1),(2,1)]:=by kernel_rfl
theorem Jv:Rs Ek 25=true:=by kernel_rfl
theorem Yi:Rs Ek 26=true:=by kernel_rfl
theorem Gb:Rs Ek 3=true:=by kernel_rfl
theorem Qv:Rs Ek 4=true:=by kernel_rfl
theorem G1a:Rs Ek 40=true:=by kernel_rfl
theorem Ja:Rs Ek 5=true:=by kernel_rfl
theorem Gf2:Rt Ek 110 12=true:=by kernel_rfl
theorem J0c:Rt Ek 113 2=true:=by kernel_rfl
theorem Jcd:Rt Ek 163 3=true:=by kernel_rfl
theorem G47:sliceB Ek 132 5 1=true:=by kernel_rfl
theorem Gbf:sliceB Ek 161 163 3=true:=by kernel_rfl
theorem Ji:sliceB Ek 25 110 12=true:=by kernel_rfl
theorem R0:sliceB Ek 26 113 2=true:=by kernel_rfl
theorem Gq:sliceB Ek 40 3 1=true:=by kernel_rfl
theorem J0b:(Ek.info? 127).bind (fun i=>i.zero.map Value.cells)=some (List.toArray [.int .i64 0,.int .i64 0,.int .i64 0]):=by kernel_rfl
theorem Yn:(Ek.info? 163).bind (fun i=>i.zero.map Value.cells)=some (List.toArray [.int .i64 0,.int .i64 0,.int .i64 0]):=by kernel_rfl
theorem G6a:(Ek.info? 47).bind (fun i=>i.zero.map Value.cells)=some (List.toArray [.int .i64 0,.int .i64 0,.int .u8 0]):=by kernel_rfl
theorem G17:Re Ek 110 12=true:=by kernel_rfl
theorem G7e:Re Ek 113 2=true:=by kernel_rfl
theorem H1c:Re Ek 163 3=true:=by kernel_rfl
theorem J40:Re Ek 5 1=true:=by kernel_rfl
theorem G7d:(Ek.info? 3).bind (·.zero)=some (.int .i64 0):=by kernel_rfl
theorem Heb:Gcd Ek 127 Ha.kv:=Gcd.of_eq Ha.ks (by kernel_rfl) (fun a b h=>by simp only [Ha.ks,List.cons.injEq,Value.int.injEq,Value.bool.injEq,Value.string.injEq,true_and,and_true] at h; obtain⟨_,_,_⟩:=a; obtain⟨_,_,_⟩:=b; simp_all) 4 (by decide) (fun a b=>tq_127 a b) (fun a=>by kernel_rfl) (fun a=>by simp [Instr.sameBits,Ha.ks])
end XAF
open XAF

def G12 (l:List Hd):Option Bool:=
 each (fun y18 i18 (s18:Unit) nx18=>
  bif ((decide (y18.n < y18.low))||(decide (y18.high < y18.n))) then
  (some false)
  else
  (nx18 ()))
 (fun(s18:Unit)=>
  some true) l 0 ()
theorem H16 (l:List Hd) (r:Bool) (h:G12 l=some r):Pure Ek 99 [LS 3 Hd.av l] (·=BL r):=by
 unfold G12 at h
 refine H6 [.tmp 2] Tryz.func99 O O (Jr fun hK1=>(Yv (BL false) O (G7 (hK1 (Js fun hK2=>Jr fun hK3=>(Yv (LS 3 Hd.av l) O (JLl Gbf O O O fun hm6=>(Yv (G0 0) O (G7 (hK3 (Gw ?_)))))))))))
 obtain⟨b18,kx18,hb18,hkx18,h⟩:=J0 h
 refine Hp (fun i18 (s18:Unit)=>each b18 kx18 (List.drop i18 l) i18 s18=some r) (fun i18 s18=>[(5,LS 3 Hd.av l),(6,Ej l.length),(7,Ej i18)]) (fun i18 s18=>[]) (fun i18=>l.length - i18) 0 () h ⟨⟨.same O,.same O,.same O,G⟩,G,O⟩ ?_
 clear h
 intro i18 s18 hi18 K18 e18
 refine Jr fun hK19=>(JLh (BL (decide ((i18:Int) < (l.length:Int)))) (Jb O O O) O (G7 (hK19 (Js fun hK20=>Gm O (fun hb=>?_) (fun hb=>?_)))))
 ·
  have hk18:=Jk hb
  obtain⟨y18,nx18,hy18,hn18,h⟩:=Hq hi18 hk18
  replace h:=Ya hb18 h
  refine Gr (hK20 (Js fun hK21=>Gw (Jr fun hK22=>(JLh (.dptr [G0 y18.n,G0 y18.low,G0 y18.high]) (Hb (f:=Hd.av) (xs:=l) (y:=y18) O O O Gbf hy18 O) O (JLh (.agg [G0 y18.n,G0 y18.low,G0 y18.high]) (Gh Q0c O O O) O (JLh (.ptr 1150 0) (Hu 1150 3 H1c O O) O (Hw (u:=.junk) (Hj (u:=.agg [G0 y18.n,G0 y18.low,G0 y18.high]) (ds:=[G0 y18.n,G0 y18.low,G0 y18.high]) Jcd O O O O O O O O) (G7 (hK22 (Gt [(4,.dptr [G0 y18.n,G0 y18.low,G0 y18.high]),(5,LS 3 Hd.av l),(6,Ej l.length),(7,Ej i18)] [] 1150 rfl rfl rfl G rfl (by repeat' (first | exact .ptr | constructor)) ?_))))))))))
  refine Jr fun hK23=>(JLh (.dptr [G0 y18.n,G0 y18.low,G0 y18.high]) (Gf H43 O O O) O (JLh (G0 y18.n) (Gj Gb O O O) O (JLh (.dptr [G0 y18.low,G0 y18.high]) (Gf J47 O O O) O (JLh (G0 y18.low) (Gj Gb O O O) O (JLh (BL (decide (y18.n < y18.low))) (Jb O O O) O (Yv (BL (decide (y18.n < y18.low))) O (JLo (.dptr [G0 y18.n,G0 y18.low,G0 y18.high]) [] O .scf G (fun hc=>Gf H43 O O O) O (JLo (G0 y18.n) [17] O .scf ⟨Ua,G⟩ (fun hc=>Gj Gb O O O) O (JLo (.dptr [G0 y18.high]) [] O .scf G (fun hc=>Gf J46 O O O) O (JLo (G0 y18.high) [19] O .scf ⟨Ua,G⟩ (fun hc=>Gj Gb O O O) O (JLo (BL (decide (y18.high < y18.n))) [18,20] O .scf ⟨Ua,Ua,G⟩ (fun hc=>G35 O O O) O (JLh (BL ((decide (y18.n < y18.low))||(decide (y18.high < y18.n)))) (Zn O O O O) O (G7 (hK23 ?_))))))))))))))
  refine JCc O h (fun h hb=>?_) (fun h hb=>?_)
  ·
   refine Jr fun hK24=>(Yv (BL false) O (G7 (hK24 (Gx (fin1 BL h)))))
  ·
   refine Gr (hK21 (G3 (JLh (G0 ((i18+1:Nat):Int)) (Hx (Ho hk18 hm6) O O O) O (Yv (G0 ((i18+1:Nat):Int)) O (G7 (e18 _ _ (i18+1) () (app1 hn18 h) (by omega) ⟨⟨.same rfl,.same rfl,.same rfl,G⟩,G,rfl⟩))))))
 ·
  have h:=app1 hkx18 (Hr hi18 (Hc hb))
  refine Ht (hK2 (Jr fun hK25=>(Yv (BL true) O (G7 (hK25 (Gx (fin1 BL h)))))))

def G52 (c:G4):Option Bool:=
 each (fun y27 i27 (s27:Unit) nx27=>
  wrp (c.Tiers - 1) fun v33=>
  bnd (G12 [(Hd.mk y27 0 v33)]) fun r34=>
  bnd (bif ((!(!r34))&&(decide (0 < (i27:Int)))) then some (IntKind.i64.wrap ((i27:Int) - 1)) else some 0) fun v35=>
  bnd (bif ((!(!r34))&&(decide (0 < (i27:Int)))) then Z2 c.Plugs v35 some else some default) fun y36=>
  bif ((!r34)||((decide (0 < (i27:Int)))&&(decide (y27≤y36)))) then
  (some false)
  else
  (nx27 ()))
 (fun(s27:Unit)=>
  bnd (G12 [(Hd.mk c.Bay 0 39),(Hd.mk c.Row 0 30),(Hd.mk c.Tiers 1 10),(Hd.mk c.Height 0 40000),(Hd.mk c.Kilos20 0 500000000),(Hd.mk c.Kilos40 0 500000000),(Hd.mk c.Lash 0 1000000000000),(Hd.mk c.X (-500000) 500000),(Hd.mk c.Y (-500000) 500000),(Hd.mk c.Z (-500000) 500000)]) fun r39=>
  some r39) c.Plugs 0 ()
theorem J9d (c:G4) (r:Bool) (h:G52 c=some r):Pure Ek 63 [.agg (G4.cs c)] (·=BL r):=by
 unfold G52 at h
 refine H6 [.tmp 2] Tryz.func63 O O (Jr fun hK1=>(JLh (.ptr 1131 0) (Jn (cs:=(G4.cs c)) 1131 O O O O O) O (Yv (BL false) O (G7 (hK1 (Gt [(1,Ee c)] [] 1131 rfl rfl rfl G rfl (by exact⟨.ptr,G⟩) (Jr fun hK2=>(Yv (.fn 99 []) O (G7 (hK2 (Js fun hK3=>Jr fun hK4=>(JLh (.dptr [E0 c.Plugs,G0 c.X,G0 c.Y,G0 c.Z]) (Gf H45 O O O) O (JLh (E0 c.Plugs) (Gj G1a O O O) O (JLl Gq O O O fun hm8=>(Yv (G0 0) O (G7 (hK4 (Gw ?_))))))))))))))))))
 obtain⟨b27,kx27,hb27,hkx27,h⟩:=J0 h
 refine Hp (fun i27 (s27:Unit)=>each b27 kx27 (List.drop i27 c.Plugs) i27 s27=some r) (fun i27 s27=>[(1,Ee c),(3,.fn 99 []),(7,E0 c.Plugs),(8,Ej c.Plugs.length),(9,Ej i27)]) (fun i27 s27=>[]) (fun i27=>c.Plugs.length - i27) 0 () h ⟨(by repeat' constructor),G,rfl⟩ ?_
 clear h
 intro i27 s27 hi27 K27 e27
 refine Jr fun hK28=>(JLh (BL (decide ((i27:Int) < (c.Plugs.length:Int)))) (Jb O O O) O (G7 (hK28 (Js fun hK29=>Gm O (fun hb=>?_) (fun hb=>?_)))))
 ·
  have hk27:=Jk hb
  obtain⟨y27,nx27,hy27,hn27,h⟩:=Hq hi27 hk27
  replace h:=Ya hb27 h
  refine Gr (hK29 (Js fun hK30=>Gw (Jr fun hK31=>(Yv (Ej i27) O (JLh (.dptr [G0 y27]) (Hb (f:=G0) (xs:=c.Plugs) (y:=y27) O O O Gq hy27 O) O (JLh (G0 y27) (Gj Gb O O O) O (Yv (Ej i27) O (Yv (G0 y27) O (G7 (hK31 (Jr fun hK32=>(Yv (.fn 99 []) O (Yv (G0 y27) O (JLh (.dptr [G0 c.Tiers,G0 c.Height,G0 c.Kilos20,G0 c.Kilos40,G0 c.Lash,E0 c.Plugs,G0 c.X,G0 c.Y,G0 c.Z]) (Gf G81 O O O) O (JLh (G0 c.Tiers) (Gj Gb O O O) O ?_)))))))))))))))
  obtain⟨v33,hv33,h⟩:=wrp_out h
  refine JLh (G0 v33) (H3d hv33 O O O) O (JLh (.agg [G0 y27,G0 0,G0 v33]) (Hz (cs:=[G0 y27,G0 0,G0 v33]) [(0,1),(1,1),(2,1)] [G0 0,G0 0,G0 0] [.int .i64 0,.int .i64 0,.int .i64 0] Rg Yn ⟨.inl O,.inl O,.inl O,G⟩ O O) O (JLh (LS 3 Hd.av [(Hd.mk y27 0 v33)]) (H9 (xs:=[.agg [G0 y27,G0 0,G0 v33]]) O ⟨O,O,G⟩ Gbf H1c O O O O) O ?_))
  obtain⟨r34,hr34,h⟩:=Gd h
  refine JLh (BL r34) (G46 (args:=[LS 3 Hd.av [(Hd.mk y27 0 v33)]]) (caps:=[]) O O (H16 [(Hd.mk y27 0 v33)] r34 hr34) J4f ⟨O,O,G⟩ O) O (JLh (BL (!r34)) (Ru (b:=r34) O O) O (Yv (BL (!r34)) O (JLo (Ej i27) [] O .scf G (fun hc=>G5 O O) O (JLo (BL (decide (0 < (i27:Int)))) [24] O .scf ⟨Ua,G⟩ (fun hc=>G35 O O O) O (JLo (BL (decide (0 < (i27:Int)))) [25] O .scf ⟨Ua,G⟩ (fun hc=>G5 O O) O (JLo (G0 y27) [] O .optt G (fun hc=>G5 O O) O (JLo (.dptr [E0 c.Plugs,G0 c.X,G0 c.Y,G0 c.Z]) [] O .optt G (fun hc=>Gf H45 O O O) O (JLo (E0 c.Plugs) [28] O .optt ⟨Ua,G⟩ (fun hc=>Gj G1a O O O) O (JLo (Ej i27) [] O .optt G (fun hc=>G5 O O) O ?_)))))))))
  obtain⟨v35,hv35,h⟩:=Gd h
  refine JLo (G0 v35) [30] O .optt ⟨Ua,G⟩ (fun hc=>H3d (Option.some.inj (H4 hc hv35)) O O O) O ?_
  obtain⟨y36,hy36,h⟩:=Gd h
  refine JLo (.dptr [G0 y36]) [29,31] O .optt ⟨Ua,Ua,G⟩ (fun hc=>(match Yd (H4 hc hy36) with | ⟨_,hm_,hy_⟩=>Hb (f:=G0) (xs:=c.Plugs) (y:=y36) O O O Gq hy_ hm_)) O (JLo (G0 y36) [32] O .optt ⟨Ua,G⟩ (fun hc=>Gj Gb O O O) O (JLo (BL (decide (y27≤y36))) [27,33] O .optt ⟨Ua,Ua,G⟩ (fun hc=>He5 O O O) O (Gc (u:=BL ((decide (0 < (i27:Int)))&&(decide (y27≤y36)))) [(26,BL (decide (0 < (i27:Int)))),(34,_)] O O O .scf ⟨.all id,.part,G⟩ (fun hc=>Qd O O O O) ?_)))
  refine JLh (BL ((!r34)||((decide (0 < (i27:Int)))&&(decide (y27≤y36))))) (Zn O O O O) O (G7 (hK32 (JCc O h (fun h hb=>?_) (fun h hb=>?_))))
  ·
   refine Jr fun hK37=>(Yv (BL false) O (G7 (hK37 (Gx (fin1 BL h)))))
  ·
   refine Gr (hK30 (G3 (JLh (G0 ((i27+1:Nat):Int)) (Hx (Ho hk27 hm8) O O O) O (Yv (G0 ((i27+1:Nat):Int)) O (G7 (e27 _ _ (i27+1) () (app1 hn27 h) (by omega) ⟨(by repeat' constructor),G,rfl⟩))))))
 ·
  have h:=app1 hkx27 (Hr hi27 (Hc hb))
  refine Ht (hK3 ?_)
  refine Jr fun hK38=>(Yv (.fn 99 []) O (JLh (Ee c) (Gf G0c O O O) O (JLh (G0 c.Bay) (Gj Gb O O O) O (JLh (.agg [G0 c.Bay,G0 0,G0 39]) (Hz (cs:=[G0 c.Bay,G0 0,G0 39]) [(0,1),(1,1),(2,1)] [G0 0,G0 0,G0 0] [.int .i64 0,.int .i64 0,.int .i64 0] Rg Yn ⟨.inl O,.inl O,.inl O,G⟩ O O) O (JLh (.dptr [G0 c.Row,BL c.Deck,G0 c.Tiers,G0 c.Height,G0 c.Kilos20,G0 c.Kilos40,G0 c.Lash,E0 c.Plugs,G0 c.X,G0 c.Y,G0 c.Z]) (Gf G0b O O O) O (JLh (G0 c.Row) (Gj Gb O O O) O (JLh (.agg [G0 c.Row,G0 0,G0 30]) (Hz (cs:=[G0 c.Row,G0 0,G0 30]) [(0,1),(1,1),(2,1)] [G0 0,G0 0,G0 0] [.int .i64 0,.int .i64 0,.int .i64 0] Rg Yn ⟨.inl O,.inl O,.inl O,G⟩ O O) O (JLh (.dptr [G0 c.Tiers,G0 c.Height,G0 c.Kilos20,G0 c.Kilos40,G0 c.Lash,E0 c.Plugs,G0 c.X,G0 c.Y,G0 c.Z]) (Gf G81 O O O) O (JLh (G0 c.Tiers) (Gj Gb O O O) O (JLh (.agg [G0 c.Tiers,G0 1,G0 10]) (Hz (cs:=[G0 c.Tiers,G0 1,G0 10]) [(0,1),(1,1),(2,1)] [G0 0,G0 0,G0 0] [.int .i64 0,.int .i64 0,.int .i64 0] Rg Yn ⟨.inl O,.inl O,.inl O,G⟩ O O) O (JLh (.dptr [G0 c.Height,G0 c.Kilos20,G0 c.Kilos40,G0 c.Lash,E0 c.Plugs,G0 c.X,G0 c.Y,G0 c.Z]) (Gf H46 O O O) O (JLh (G0 c.Height) (Gj Gb O O O) O (JLh (.agg [G0 c.Height,G0 0,G0 40000]) (Hz (cs:=[G0 c.Height,G0 0,G0 40000]) [(0,1),(1,1),(2,1)] [G0 0,G0 0,G0 0] [.int .i64 0,.int .i64 0,.int .i64 0] Rg Yn ⟨.inl O,.inl O,.inl O,G⟩ O O) O ?_)))))))))))))
  refine JLh (.dptr [G0 c.Kilos20,G0 c.Kilos40,G0 c.Lash,E0 c.Plugs,G0 c.X,G0 c.Y,G0 c.Z]) (Gf J4a O O O) O (JLh (G0 c.Kilos20) (Gj Gb O O O) O (JLh (.agg [G0 c.Kilos20,G0 0,G0 500000000]) (Hz (cs:=[G0 c.Kilos20,G0 0,G0 500000000]) [(0,1),(1,1),(2,1)] [G0 0,G0 0,G0 0] [.int .i64 0,.int .i64 0,.int .i64 0] Rg Yn ⟨.inl O,.inl O,.inl O,G⟩ O O) O (JLh (.dptr [G0 c.Kilos40,G0 c.Lash,E0 c.Plugs,G0 c.X,G0 c.Y,G0 c.Z]) (Gf J49 O O O) O (JLh (G0 c.Kilos40) (Gj Gb O O O) O (JLh (.agg [G0 c.Kilos40,G0 0,G0 500000000]) (Hz (cs:=[G0 c.Kilos40,G0 0,G0 500000000]) [(0,1),(1,1),(2,1)] [G0 0,G0 0,G0 0] [.int .i64 0,.int .i64 0,.int .i64 0] Rg Yn ⟨.inl O,.inl O,.inl O,G⟩ O O) O (JLh (.dptr [G0 c.Lash,E0 c.Plugs,G0 c.X,G0 c.Y,G0 c.Z]) (Gf J48 O O O) O (JLh (G0 c.Lash) (Gj Gb O O O) O (JLh (.agg [G0 c.Lash,G0 0,G0 1000000000000]) (Hz (cs:=[G0 c.Lash,G0 0,G0 1000000000000]) [(0,1),(1,1),(2,1)] [G0 0,G0 0,G0 0] [.int .i64 0,.int .i64 0,.int .i64 0] Rg Yn ⟨.inl O,.inl O,.inl O,G⟩ O O) O (JLh (.dptr [G0 c.X,G0 c.Y,G0 c.Z]) (Gf H44 O O O) O (JLh (G0 c.X) (Gj Gb O O O) O (JLh (.agg [G0 c.X,G0 (-500000),G0 500000]) (Hz (cs:=[G0 c.X,G0 (-500000),G0 500000]) [(0,1),(1,1),(2,1)] [G0 0,G0 0,G0 0] [.int .i64 0,.int .i64 0,.int .i64 0] Rg Yn ⟨.inl O,.inl O,.inl O,G⟩ O O) O (JLh (.dptr [G0 c.Y,G0 c.Z]) (Gf H34 O O O) O (JLh (G0 c.Y) (Gj Gb O O O) O ?_)))))))))))))
  refine JLh (.agg [G0 c.Y,G0 (-500000),G0 500000]) (Hz (cs:=[G0 c.Y,G0 (-500000),G0 500000]) [(0,1),(1,1),(2,1)] [G0 0,G0 0,G0 0] [.int .i64 0,.int .i64 0,.int .i64 0] Rg Yn ⟨.inl O,.inl O,.inl O,G⟩ O O) O (JLh (.dptr [G0 c.Z]) (Gf Gb5 O O O) O (JLh (G0 c.Z) (Gj Gb O O O) O (JLh (.agg [G0 c.Z,G0 (-500000),G0 500000]) (Hz (cs:=[G0 c.Z,G0 (-500000),G0 500000]) [(0,1),(1,1),(2,1)] [G0 0,G0 0,G0 0] [.int .i64 0,.int .i64 0,.int .i64 0] Rg Yn ⟨.inl O,.inl O,.inl O,G⟩ O O) O (JLh (LS 3 Hd.av [(Hd.mk c.Bay 0 39),(Hd.mk c.Row 0 30),(Hd.mk c.Tiers 1 10),(Hd.mk c.Height 0 40000),(Hd.mk c.Kilos20 0 500000000),(Hd.mk c.Kilos40 0 500000000),(Hd.mk c.Lash 0 1000000000000),(Hd.mk c.X (-500000) 500000),(Hd.mk c.Y (-500000) 500000),(Hd.mk c.Z (-500000) 500000)]) (H9 (xs:=[.agg [G0 c.Bay,G0 0,G0 39],.agg [G0 c.Row,G0 0,G0 30],.agg [G0 c.Tiers,G0 1,G0 10],.agg [G0 c.Height,G0 0,G0 40000],.agg [G0 c.Kilos20,G0 0,G0 500000000],.agg [G0 c.Kilos40,G0 0,G0 500000000],.agg [G0 c.Lash,G0 0,G0 1000000000000],.agg [G0 c.X,G0 (-500000),G0 500000],.agg [G0 c.Y,G0 (-500000),G0 500000],.agg [G0 c.Z,G0 (-500000),G0 500000]]) O ⟨O,O,O,O,O,O,O,O,O,O,O,O,O,O,O,O,O,O,O,O,G⟩ Gbf H1c O O O O) O ?_))))
  obtain⟨r39,hr39,h⟩:=Gd h
  refine JLh (BL r39) (G46 (args:=[LS 3 Hd.av [(Hd.mk c.Bay 0 39),(Hd.mk c.Row 0 30),(Hd.mk c.Tiers 1 10),(Hd.mk c.Height 0 40000),(Hd.mk c.Kilos20 0 500000000),(Hd.mk c.Kilos40 0 500000000),(Hd.mk c.Lash 0 1000000000000),(Hd.mk c.X (-500000) 500000),(Hd.mk c.Y (-500000) 500000),(Hd.mk c.Z (-500000) 500000)]]) (caps:=[]) O O (H16 [(Hd.mk c.Bay 0 39),(Hd.mk c.Row 0 30),(Hd.mk c.Tiers 1 10),(Hd.mk c.Height 0 40000),(Hd.mk c.Kilos20 0 500000000),(Hd.mk c.Kilos40 0 500000000),(Hd.mk c.Lash 0 1000000000000),(Hd.mk c.X (-500000) 500000),(Hd.mk c.Y (-500000) 500000),(Hd.mk c.Z (-500000) 500000)] r39 hr39) J4f ⟨O,O,G⟩ O) O (Yv (BL r39) O (G7 (hK38 (Gx (fin1 BL h)))))

def G8b (s:Gp) (Rp:Bool→Prop):Option Prop:=
 bif (((decide ((s.Columns.length:Int) < 1))||(decide (200 < (s.Columns.length:Int))))||(decide (40 < (s.Covers.length:Int)))) then
 (some (Rp false))
 else
 (each (fun y68 i68 (s68:(H8 Ha Int)) nx68=>
   jp (fun kj74=>
    bif y68.Deck then
    (kj74 1)
    else
    (kj74 0)) fun(j74:Int)=>
   bnd (some (H8.get s68 (Ha.mk y68.Bay y68.Row j74) 0)) fun v77=>
   G0d (v77+1) fun v78=>
   bnd (G52 y68) fun r80=>
   bif (!r80) then
   (some (Rp false))
   else
   (nx68 (H8.put s68 (Ha.mk y68.Bay y68.Row j74) v78)))
  (fun(s68:(H8 Ha Int))=>
   each (fun y84 i84 (s84:(H8 Ha Int)) nx84=>
    bif (((decide (y84.Bay < 0))||(decide (40≤y84.Bay)))||(decide ((y84.Rows.length:Int)=0))) then
    (some (Rp false))
    else
    (each (fun y157 i157 (s157:(H8 Ha Int)) nx157=>
      bnd (bif ((!((decide (y157 < 0))||(decide (30 < y157))))&&(decide (0 < (i157:Int)))) then G0d ((i157:Int) - 1) some else some 0) fun v164=>
      bnd (bif ((!((decide (y157 < 0))||(decide (30 < y157))))&&(decide (0 < (i157:Int)))) then Z2 y84.Rows v164 some else some default) fun y165=>
      bif (((decide (y157 < 0))||(decide (30 < y157)))||((decide (0 < (i157:Int)))&&(decide (y157≤y165)))) then
      (some (Rp false))
      else
      (bnd (some (H8.get s157 (Ha.mk y84.Bay y157 2) 0)) fun v167=>
       G0d (v167+1) fun v168=>
       nx157 (H8.put s157 (Ha.mk y84.Bay y157 2) v168)))
     (fun(s157:(H8 Ha Int))=>
      nx84 s157) y84.Rows 0 s84))
   (fun(s84:(H8 Ha Int))=>
    J89 (fun(x176:Ha×Int) (s176:Unit) nx176=>
     bif decide (1 < x176.2) then
     (lft (some (Rp false)))
     else
     (nx176 ()))
    (fun(s176:Unit)=>
     some (Rp true)) (H8.l s84) ()) s.Covers 0 s68) s.Columns 0 (H8.empty:H8 Ha Int))
def Gce (s:Gp):Option Bool:=
 bif (((decide ((s.Columns.length:Int) < 1))||(decide (200 < (s.Columns.length:Int))))||(decide (40 < (s.Covers.length:Int)))) then
 (some (id false))
 else
 (each (fun y68 i68 (s68:(H8 Ha Int)) nx68=>
   jp (fun kj74=>
    bif y68.Deck then
    (kj74 1)
    else
    (kj74 0)) fun(j74:Int)=>
   bnd (some (H8.get s68 (Ha.mk y68.Bay y68.Row j74) 0)) fun v77=>
   G0d (v77+1) fun v78=>
   bnd (G52 y68) fun r80=>
   bif (!r80) then
   (some (id false))
   else
   (nx68 (H8.put s68 (Ha.mk y68.Bay y68.Row j74) v78)))
  (fun(s68:(H8 Ha Int))=>
   each (fun y84 i84 (s84:(H8 Ha Int)) nx84=>
    bif (((decide (y84.Bay < 0))||(decide (40≤y84.Bay)))||(decide ((y84.Rows.length:Int)=0))) then
    (some (id false))
    else
    (each (fun y157 i157 (s157:(H8 Ha Int)) nx157=>
      bnd (bif ((!((decide (y157 < 0))||(decide (30 < y157))))&&(decide (0 < (i157:Int)))) then G0d ((i157:Int) - 1) some else some 0) fun v164=>
      bnd (bif ((!((decide (y157 < 0))||(decide (30 < y157))))&&(decide (0 < (i157:Int)))) then Z2 y84.Rows v164 some else some default) fun y165=>
      bif (((decide (y157 < 0))||(decide (30 < y157)))||((decide (0 < (i157:Int)))&&(decide (y157≤y165)))) then
      (some (id false))
      else
      (bnd (some (H8.get s157 (Ha.mk y84.Bay y157 2) 0)) fun v167=>
       G0d (v167+1) fun v168=>
       nx157 (H8.put s157 (Ha.mk y84.Bay y157 2) v168)))
     (fun(s157:(H8 Ha Int))=>
      nx84 s157) y84.Rows 0 s84))
   (fun(s84:(H8 Ha Int))=>
    Ha0 (fun(x176:Ha×Int) (s176:Unit) nx176=>
     bif decide (1 < x176.2) then
     (lft (some (id false)))
     else
     (nx176 ()))
    (fun(s176:Unit)=>
     some (id true)) (H8.l s84) ()) s.Covers 0 s68) s.Columns 0 (H8.empty:H8 Ha Int))
theorem J9f (s:Gp) (Rp:Bool→Prop) (p:Prop) (h:G8b s Rp=some p) (hp:p):Pure Ek 28 [.agg (Gp.cs s)] (fun av=>∃ r,Rp r∧av=BL r):=by
 unfold G8b at h
 refine H6 [.tmp 2] Tryz.func28 O O (Jr fun hK1=>(JLh (.ptr 1084 0) (Jn (cs:=(Gp.cs s)) 1084 O O O O O) O (Yv (BL false) O (G7 (hK1 (Gt [(1,Ec s)] [] 1084 rfl rfl rfl G rfl (by exact⟨.ptr,G⟩) (Js fun hK2=>?_)))))))
 refine Jr fun hK3=>(JLh (Ec s) (Gf Jc O O O) O (JLh (E3 s.Columns) (Gj Jv O O O) O (JLl Ji O O O fun hm15=>(JLh (BL (decide ((s.Columns.length:Int) < 1))) (Jb O O O) O (Yv (BL (decide ((s.Columns.length:Int) < 1))) O (JLo (Ec s) [] O .scf G (fun hc=>Gf Jc O O O) O (JLo (E3 s.Columns) [18] O .scf ⟨Ua,G⟩ (fun hc=>Gj Jv O O O) O (JLo (Ej s.Columns.length) [19] O .scf ⟨Ua,G⟩ (fun hc=>Zj (f:=G4.av) (xs:=s.Columns) Ji O O) O (JLo (BL (decide (200 < (s.Columns.length:Int)))) [20] O .scf ⟨Ua,G⟩ (fun hc=>G35 O O O) O (JLh (BL ((decide ((s.Columns.length:Int) < 1))||(decide (200 < (s.Columns.length:Int))))) (Zn O O O O) O (Yv (BL ((decide ((s.Columns.length:Int) < 1))||(decide (200 < (s.Columns.length:Int))))) O (JLo (.dptr [E8 s.Covers,G0 s.Light.Kilos,G0 s.Light.X,G0 s.Light.Y,G0 s.Light.Z,E5 s.Rows,E6 s.Frames,E7 s.Tanks,G0 s.G2.Tolerance,G0 s.G2.Trim,G0 s.G2.List_,G0 s.G2.Stability]) [] O .scf G (fun hc=>Gf R3 O O O) O (JLo (E8 s.Covers) [24] O .scf ⟨Ua,G⟩ (fun hc=>Gj Yi O O O) O ?_)))))))))))))
 refine JLo (Ej s.Covers.length) [25] O .scf ⟨Ua,G⟩ (fun hc=>Zj (f:=Ga.av) (xs:=s.Covers) R0 O O) O (JLo (BL (decide (40 < (s.Covers.length:Int)))) [26] O .scf ⟨Ua,G⟩ (fun hc=>G35 O O O) O (JLh (BL (((decide ((s.Columns.length:Int) < 1))||(decide (200 < (s.Columns.length:Int))))||(decide (40 < (s.Covers.length:Int))))) (Zn O O O O) O (G7 (hK3 (JCc O h (fun h hb=>?_) (fun h hb=>?_))))))
 ·
  refine Jr fun hK4=>(Yv (BL false) O (G7 (hK4 (Gx (⟨[BL false],[],G,O,⟨⟨_,O,.conv (.same O)⟩,G⟩,O,false,Eq.mpr (Option.some.inj h) hp,O⟩)))))
 ·
  refine Gr (hK2 (Jr fun hK5=>(JLh (.mp 1087) (H33 1087 Ha.kv G0 O O) O (Yv (.mp 1087) O (G7 (hK5 (Js fun hK6=>Jr fun hK7=>(JLh (Ec s) (Gf Jc O O O) O (JLh (E3 s.Columns) (Gj Jv O O O) O (JLl Ji O O O fun hm32=>(Yv (G0 0) O (G7 (hK7 (Gw ?_))))))))))))))
  obtain⟨b68,kx68,hb68,hkx68,h⟩:=J0 h
  refine Hp (fun i68 (s68:(H8 Ha Int))=>each b68 kx68 (List.drop i68 s.Columns) i68 s68=some p) (fun i68 s68=>[(1,Ec s),(3,.mp 1087),(31,E3 s.Columns),(32,Ej s.Columns.length),(33,Ej i68)]) (fun i68 s68=>[(1087,MP 126 Ha.kv G0 s68)]) (fun i68=>s.Columns.length - i68) 0 (H8.empty:H8 Ha Int) h ⟨(by repeat' constructor),⟨⟨_,rfl,.map⟩,G⟩,rfl⟩ ?_
  clear h
  intro i68 s68 hi68 K68 e68
  refine Jr fun hK69=>(JLh (BL (decide ((i68:Int) < (s.Columns.length:Int)))) (Jb O O O) O (G7 (hK69 (Js fun hK70=>Gm O (fun hb=>?_) (fun hb=>?_)))))
  ·
   have hk68:=Jk hb
   obtain⟨y68,nx68,hy68,hn68,h⟩:=Hq hi68 hk68
   replace h:=Ya hb68 h
   refine Gr (hK70 (Js fun hK71=>Gw (Jr fun hK72=>(JLh (Ee y68) (Hb (f:=G4.av) (xs:=s.Columns) (y:=y68) O O O Ji hy68 O) O (JLh (.agg (G4.cs y68)) (Gh G3a O O O) O (JLh (.ptr 1085 0) (Hu 1085 12 G17 O O) O (Hw (u:=.junk) (Hj (u:=.agg (G4.cs y68)) (ds:=(G4.cs y68)) Gf2 O O O O O O O O) (G7 (hK72 ?_)))))))))
   refine Gt [(1,Ec s),(3,.mp 1087),(5,Ee y68),(31,E3 s.Columns),(32,Ej s.Columns.length),(33,Ej i68)] [(1087,MP 126 Ha.kv G0 s68)] 1085 rfl rfl rfl ⟨⟨_,rfl,.map⟩,G⟩ rfl (by repeat' (first | exact .ptr | constructor)) (Jr fun hK73=>(Yv (G0 0) O (G7 (hK73 ?_))))
   obtain⟨kj74,hkj74,h⟩:=Rm h
   refine Qr (fun j74:Int=>kj74 j74=some p) (fun j74=>[(1,Ec s),(3,.mp 1087),(5,Ee y68),(6,G0 j74),(31,E3 s.Columns),(32,Ej s.Columns.length),(33,Ej i68)]) (fun j74=>[(1087,MP 126 Ha.kv G0 s68)]) (fun Kj74 ej74=>?_) ?_
   ·
    refine Jr fun hK75=>(JLh (.dptr ((G4.cs y68).drop 2)) (Gf Yo O O O) O (JLh (BL y68.Deck) (Gj Qv O O O) O (G7 (hK75 (JCc O h (fun h hb=>?_) (fun h hb=>?_))))))
    ·
     refine G3 (Yv (G0 1) O (G7 (ej74 _ _ 1 h ⟨(by repeat' constructor),⟨⟨_,rfl,.map⟩,G⟩,rfl⟩)))
    ·
     refine Gr (ej74 _ _ 0 h ⟨(by repeat' constructor),⟨⟨_,rfl,.map⟩,G⟩,rfl⟩)
   ·intro j74 h
    replace h:=app1 hkj74 h
    refine Js fun hK76=>Yk (l':=[(1,Ec s),(3,.mp 1087),(5,Ee y68),(6,G0 j74),(31,E3 s.Columns),(32,Ej s.Columns.length),(33,Ej i68)]) (L':=[(1087,MP 126 Ha.kv G0 s68)]) ⟨(by repeat' constructor),⟨⟨_,rfl,.map⟩,G⟩,rfl⟩ ?_
    obtain⟨v77,hv77,h⟩:=Gd h
    obtain⟨v78,hv78,h⟩:=Jp h
    refine Qa [9,11] [0,0,0,0,0,0,0,0,0,0,1,0] [0,0,0,0,0,0,0,1,1,0,1,0] [[(1087,MP 126 Ha.kv G0 s68)],((1087,MI 126 Ha.kv G0 s68 (Ha.mk y68.Bay y68.Row j74) 0)::[(1087,MP 126 Ha.kv G0 s68)]),((1087,MP 126 Ha.kv G0 (H8.put s68 (Ha.mk y68.Bay y68.Row j74) v78))::((1087,MI 126 Ha.kv G0 s68 (Ha.mk y68.Bay y68.Row j74) 0)::[(1087,MP 126 Ha.kv G0 s68)]))] Qg (by kernel_rfl) rfl rfl ?_
    refine Gv (u:=.mp 1087) O O ⟨Gz (G5 O O) O,G⟩ (Gv (u:=Ee y68) O O ⟨Gz (Gf G0c O O O) O,G⟩ (Gv (u:=G0 y68.Bay) O O ⟨Gz (Gj Gb O O O) O,G⟩ (Gv (u:=.dptr ((G4.cs y68).drop 1)) O O ⟨Gz (Gf G0b O O O) O,G⟩ (Gv (u:=G0 y68.Row) O O ⟨Gz (Gj Gb O O O) O,G⟩ (Gv (u:=G0 j74) O O ⟨Gz (G5 O O) O,G⟩ (Gv (u:=.agg [G0 y68.Bay,G0 y68.Row,G0 j74]) O O ⟨Gz (Gec (cs:=[G0 y68.Bay,G0 y68.Row,G0 j74]) [.int .i64 0,.int .i64 0,.int .i64 0] J68 J0b O O) O,G⟩ (Gv (u:=G0 v77) O O ⟨Gz (((Option.some.inj hv77) ▸ Geb (av:=G0) (m:=s68) (a:=(Ha.mk y68.Bay y68.Row j74)) 0 (.int .i64 0) O O O O Heb G6b G7d O)) O,Gz (((Option.some.inj hv77) ▸ Hb1 (av:=G0) (m:=s68) (a:=(Ha.mk y68.Bay y68.Row j74)) 0 (.int .i64 0) O O O O Heb G6b G7d O)) O,G⟩ (Gv (u:=G0 v78) O O ⟨Gz (Hx hv78 O O O) O,Gz (Hx hv78 O O O) O,G⟩ (D_w (u:=.tup [.junk,G0 (Zm (H8.l s68) (Ha.mk y68.Bay y68.Row j74):Int)]) O O O O (Gz (H65 (m:=s68) (a:=(Ha.mk y68.Bay y68.Row j74)) 0 (.int .i64 0) O O O O Heb G6b G7d O) O) (Gv (u:=G0 (Zm (H8.l s68) (Ha.mk y68.Bay y68.Row j74):Int)) O O ⟨Gz (Gn O O O) O,G⟩ (D_w0 (u:=.junk) O O O O (Gz (H0a (m:=s68) (a:=(Ha.mk y68.Bay y68.Row j74)) (v:=v78) 0 O O O O O O) O) (Z8 ?_))))))))))))
    refine hK76 (Jr fun hK79=>(JLh (.agg (G4.cs y68)) (Gh G3a O O O) O ?_))
    obtain⟨r80,hr80,h⟩:=Gd h
    refine JLh (BL r80) (Gu O (J9d y68 r80 hr80) Jfa ⟨O,O,G⟩) O (JLh (BL (!r80)) (Ru (b:=r80) O O) O (G7 (hK79 (JCc O h (fun h hb=>?_) (fun h hb=>?_)))))
    ·
     refine Jr fun hK81=>(Yv (BL false) O (G7 (hK81 (Gx (⟨[BL false],[],G,O,⟨⟨_,O,.conv (.same O)⟩,G⟩,O,false,Eq.mpr (Option.some.inj h) hp,O⟩)))))
    ·
     refine Gr (hK71 (G3 (JLh (G0 ((i68+1:Nat):Int)) (Hx (Ho hk68 hm32) O O O) O (Yv (G0 ((i68+1:Nat):Int)) O (G7 (e68 _ _ (i68+1) (H8.put s68 (Ha.mk y68.Bay y68.Row j74) v78) (app1 hn68 h) (by omega) ⟨(by repeat' constructor),⟨⟨_,rfl,.map⟩,G⟩,rfl⟩))))))
  ·
   have h:=app1 hkx68 (Hr hi68 (Hc hb))
   refine Ht (hK6 (Js fun hK82=>Jr fun hK83=>(JLh (.dptr [E8 s.Covers,G0 s.Light.Kilos,G0 s.Light.X,G0 s.Light.Y,G0 s.Light.Z,E5 s.Rows,E6 s.Frames,E7 s.Tanks,G0 s.G2.Tolerance,G0 s.G2.Trim,G0 s.G2.List_,G0 s.G2.Stability]) (Gf R3 O O O) O (JLh (E8 s.Covers) (Gj Yi O O O) O (JLl R0 O O O fun hm56=>(Yv (G0 0) O (G7 (hK83 (Gw ?_)))))))))
   obtain⟨b84,kx84,hb84,hkx84,h⟩:=J0 h
   refine Hp (fun i84 (s84:(H8 Ha Int))=>each b84 kx84 (List.drop i84 s.Covers) i84 s84=some p) (fun i84 s84=>[(3,.mp 1087),(55,E8 s.Covers),(56,Ej s.Covers.length),(57,Ej i84)]) (fun i84 s84=>[(1087,MP 126 Ha.kv G0 s84)]) (fun i84=>s.Covers.length - i84) 0 s68 h ⟨(by repeat' constructor),⟨⟨_,rfl,.map⟩,G⟩,rfl⟩ ?_
   clear h
   intro i84 s84 hi84 K84 e84
   refine Jr fun hK85=>(JLh (BL (decide ((i84:Int) < (s.Covers.length:Int)))) (Jb O O O) O (G7 (hK85 (Js fun hK86=>Gm O (fun hb=>?_) (fun hb=>?_)))))
   ·
    have hk84:=Jk hb
    obtain⟨y84,nx84,hy84,hn84,h⟩:=Hq hi84 hk84
    replace h:=Ya hb84 h
    refine Gr (hK86 (Js fun hK87=>Gw (Jr fun hK88=>(JLh (.dptr [G0 y84.Bay,E0 y84.Rows]) (Hb (f:=Ga.av) (xs:=s.Covers) (y:=y84) O O O R0 hy84 O) O (JLh (.agg [G0 y84.Bay,E0 y84.Rows]) (Gh Gd5 O O O) O (JLh (.ptr 1086 0) (Hu 1086 2 G7e O O) O (Hw (u:=.junk) (Hj (u:=.agg [G0 y84.Bay,E0 y84.Rows]) (ds:=[G0 y84.Bay,E0 y84.Rows]) J0c O O O O O O O O) (G7 (hK88 (Gt [(3,.mp 1087),(8,.dptr [G0 y84.Bay,E0 y84.Rows]),(55,E8 s.Covers),(56,Ej s.Covers.length),(57,Ej i84)] [(1087,MP 126 Ha.kv G0 s84)] 1086 rfl rfl rfl ⟨⟨_,rfl,.map⟩,G⟩ rfl (by repeat' (first | exact .ptr | constructor)) (Js fun hK89=>?_)))))))))))
    refine Jr fun hK90=>(JLh (.dptr [G0 y84.Bay,E0 y84.Rows]) (Gf G80 O O O) O (JLh (G0 y84.Bay) (Gj Gb O O O) O (JLh (BL (decide (y84.Bay < 0))) (Jb O O O) O (Yv (BL (decide (y84.Bay < 0))) O (JLo (.dptr [G0 y84.Bay,E0 y84.Rows]) [] O .scf G (fun hc=>Gf G80 O O O) O (JLo (G0 y84.Bay) [65] O .scf ⟨Ua,G⟩ (fun hc=>Gj Gb O O O) O (JLo (BL (decide (40≤y84.Bay))) [66] O .scf ⟨Ua,G⟩ (fun hc=>Gb4 O O O) O (JLh (BL ((decide (y84.Bay < 0))||(decide (40≤y84.Bay)))) (Zn O O O O) O (Yv (BL ((decide (y84.Bay < 0))||(decide (40≤y84.Bay)))) O (JLo (.dptr [E0 y84.Rows]) [] O .scf G (fun hc=>Gf G7f O O O) O (JLo (E0 y84.Rows) [70] O .scf ⟨Ua,G⟩ (fun hc=>Gj G1a O O O) O (JLo (Ej y84.Rows.length) [71] O .scf ⟨Ua,G⟩ (fun hc=>Zj (f:=G0) (xs:=y84.Rows) Gq O O) O (JLo (BL (decide ((y84.Rows.length:Int)=0))) [72] O .scf ⟨Ua,G⟩ (fun hc=>Q0 O O O) O ?_)))))))))))))
    refine JLh (BL (((decide (y84.Bay < 0))||(decide (40≤y84.Bay)))||(decide ((y84.Rows.length:Int)=0)))) (Zn O O O O) O (G7 (hK90 (JCc O h (fun h hb=>?_) (fun h hb=>?_))))
    ·
     refine Jr fun hK91=>(Yv (BL false) O (G7 (hK91 (Gx (⟨[BL false],[],G,O,⟨⟨_,O,.conv (.same O)⟩,G⟩,O,false,Eq.mpr (Option.some.inj h) hp,O⟩)))))
    ·
     refine Gr (hK89 (Jr fun hK92=>(JLh (.dptr [E0 y84.Rows]) (Gf G7f O O O) O (JLh (E0 y84.Rows) (Gj G1a O O O) O (JLl Gq O O O fun hm77=>(Yv (G0 0) O (G7 (hK92 (Gw ?_)))))))))
     obtain⟨b157,kx157,hb157,hkx157,h⟩:=J0 h
     refine Hp (fun i157 (s157:(H8 Ha Int))=>each b157 kx157 (List.drop i157 y84.Rows) i157 s157=some p) (fun i157 s157=>[(3,.mp 1087),(8,.dptr [G0 y84.Bay,E0 y84.Rows]),(55,E8 s.Covers),(56,Ej s.Covers.length),(57,Ej i84),(76,E0 y84.Rows),(77,Ej y84.Rows.length),(78,Ej i157)]) (fun i157 s157=>[(1087,MP 126 Ha.kv G0 s157)]) (fun i157=>y84.Rows.length - i157) 0 s84 h ⟨(by repeat' constructor),⟨⟨_,rfl,.map⟩,G⟩,rfl⟩ ?_
     clear h
     intro i157 s157 hi157 K157 e157
     refine Jr fun hK158=>(JLh (BL (decide ((i157:Int) < (y84.Rows.length:Int)))) (Jb O O O) O (G7 (hK158 (Js fun hK159=>Gm O (fun hb=>?_) (fun hb=>?_)))))
     ·
      have hk157:=Jk hb
      obtain⟨y157,nx157,hy157,hn157,h⟩:=Hq hi157 hk157
      replace h:=Ya hb157 h
      refine Gr (hK159 (Js fun hK160=>Gw (Jr fun hK161=>(Yv (Ej i157) O (JLh (.dptr [G0 y157]) (Hb (f:=G0) (xs:=y84.Rows) (y:=y157) O O O Gq hy157 O) O (JLh (G0 y157) (Gj Gb O O O) O (Yv (Ej i157) O (Yv (G0 y157) O (G7 (hK161 (Js fun hK162=>?_)))))))))))
      refine Jr fun hK163=>(Yv (G0 y157) O (JLh (BL (decide (y157 < 0))) (Jb O O O) O (Yv (BL (decide (y157 < 0))) O (JLo (G0 y157) [] O .scf G (fun hc=>G5 O O) O (JLo (BL (decide (30 < y157))) [86] O .scf ⟨Ua,G⟩ (fun hc=>G35 O O O) O (JLh (BL ((decide (y157 < 0))||(decide (30 < y157)))) (Zn O O O O) O (Yv (BL ((decide (y157 < 0))||(decide (30 < y157)))) O (JLo (Ej i157) [] O .scf G (fun hc=>G5 O O) O (JLo (BL (decide (0 < (i157:Int)))) [90] O .scf ⟨Ua,G⟩ (fun hc=>G35 O O O) O (JLo (BL (decide (0 < (i157:Int)))) [91] O .scf ⟨Ua,G⟩ (fun hc=>G5 O O) O (JLo (G0 y157) [] O .optt G (fun hc=>G5 O O) O (JLo (.dptr [E0 y84.Rows]) [] O .optt G (fun hc=>Gf G7f O O O) O (JLo (E0 y84.Rows) [94] O .optt ⟨Ua,G⟩ (fun hc=>Gj G1a O O O) O ?_)))))))))))))
      refine JLo (Ej i157) [] O .optt G (fun hc=>G5 O O) O ?_
      obtain⟨v164,hv164,h⟩:=Gd h
      refine JLo (G0 v164) [96] O .optt ⟨Ua,G⟩ (fun hc=>H3d (Ga9 (H4 hc hv164)) O O O) O ?_
      obtain⟨y165,hy165,h⟩:=Gd h
      refine JLo (.dptr [G0 y165]) [95,97] O .optt ⟨Ua,Ua,G⟩ (fun hc=>(match Yd (H4 hc hy165) with | ⟨_,hm_,hy_⟩=>Hb (f:=G0) (xs:=y84.Rows) (y:=y165) O O O Gq hy_ hm_)) O (JLo (G0 y165) [98] O .optt ⟨Ua,G⟩ (fun hc=>Gj Gb O O O) O (JLo (BL (decide (y157≤y165))) [93,99] O .optt ⟨Ua,Ua,G⟩ (fun hc=>He5 O O O) O (Gc (u:=BL ((decide (0 < (i157:Int)))&&(decide (y157≤y165)))) [(92,BL (decide (0 < (i157:Int)))),(100,_)] O O O .scf ⟨.all id,.part,G⟩ (fun hc=>Qd O O O O) ?_)))
      refine JLh (BL (((decide (y157 < 0))||(decide (30 < y157)))||((decide (0 < (i157:Int)))&&(decide (y157≤y165))))) (Zn O O O O) O (G7 (hK163 (JCc O h (fun h hb=>?_) (fun h hb=>?_))))
      ·
       refine Jr fun hK166=>(Yv (BL false) O (G7 (hK166 (Gx (⟨[BL false],[],G,O,⟨⟨_,O,.conv (.same O)⟩,G⟩,O,false,Eq.mpr (Option.some.inj h) hp,O⟩)))))
      ·
       refine Gr (hK162 (Yk (l':=[(3,.mp 1087),(8,.dptr [G0 y84.Bay,E0 y84.Rows]),(10,G0 y157),(55,E8 s.Covers),(56,Ej s.Covers.length),(57,Ej i84),(76,E0 y84.Rows),(77,Ej y84.Rows.length),(78,Ej i157)]) (L':=[(1087,MP 126 Ha.kv G0 s157)]) ⟨(by repeat' constructor),⟨⟨_,rfl,.map⟩,G⟩,rfl⟩ ?_))
       obtain⟨v167,hv167,h⟩:=Gd h
       obtain⟨v168,hv168,h⟩:=Jp h
       refine Qa [7,9] [0,0,0,0,0,0,0,0,1,0] [0,0,0,0,0,1,1,0,1,0] [[(1087,MP 126 Ha.kv G0 s157)],((1087,MI 126 Ha.kv G0 s157 (Ha.mk y84.Bay y157 2) 0)::[(1087,MP 126 Ha.kv G0 s157)]),((1087,MP 126 Ha.kv G0 (H8.put s157 (Ha.mk y84.Bay y157 2) v168))::((1087,MI 126 Ha.kv G0 s157 (Ha.mk y84.Bay y157 2) 0)::[(1087,MP 126 Ha.kv G0 s157)]))] Qg (by kernel_rfl) rfl rfl ?_
       refine Gv (u:=.mp 1087) O O ⟨Gz (G5 O O) O,G⟩ (Gv (u:=.dptr [G0 y84.Bay,E0 y84.Rows]) O O ⟨Gz (Gf G80 O O O) O,G⟩ (Gv (u:=G0 y84.Bay) O O ⟨Gz (Gj Gb O O O) O,G⟩ (Gv (u:=G0 y157) O O ⟨Gz (G5 O O) O,G⟩ (Gv (u:=.agg [G0 y84.Bay,G0 y157,G0 2]) O O ⟨Gz (Gec (cs:=[G0 y84.Bay,G0 y157,G0 2]) [.int .i64 0,.int .i64 0,.int .i64 0] J68 J0b O O) O,G⟩ (Gv (u:=G0 v167) O O ⟨Gz (((Option.some.inj hv167) ▸ Geb (av:=G0) (m:=s157) (a:=(Ha.mk y84.Bay y157 2)) 0 (.int .i64 0) O O O O Heb G6b G7d O)) O,Gz (((Option.some.inj hv167) ▸ Hb1 (av:=G0) (m:=s157) (a:=(Ha.mk y84.Bay y157 2)) 0 (.int .i64 0) O O O O Heb G6b G7d O)) O,G⟩ (Gv (u:=G0 v168) O O ⟨Gz (Hx hv168 O O O) O,Gz (Hx hv168 O O O) O,G⟩ (D_w (u:=.tup [.junk,G0 (Zm (H8.l s157) (Ha.mk y84.Bay y157 2):Int)]) O O O O (Gz (H65 (m:=s157) (a:=(Ha.mk y84.Bay y157 2)) 0 (.int .i64 0) O O O O Heb G6b G7d O) O) (Gv (u:=G0 (Zm (H8.l s157) (Ha.mk y84.Bay y157 2):Int)) O O ⟨Gz (Gn O O O) O,G⟩ (D_w0 (u:=.junk) O O O O (Gz (H0a (m:=s157) (a:=(Ha.mk y84.Bay y157 2)) (v:=v168) 0 O O O O O O) O) (Z8 ?_))))))))))
       refine hK160 (G3 (JLh (G0 ((i157+1:Nat):Int)) (Hx (Ho hk157 hm77) O O O) O (Yv (G0 ((i157+1:Nat):Int)) O (G7 (e157 _ _ (i157+1) (H8.put s157 (Ha.mk y84.Bay y157 2) v168) (app1 hn157 h) (by omega) ⟨(by repeat' constructor),⟨⟨_,rfl,.map⟩,G⟩,rfl⟩)))))
     ·
      have h:=app1 hkx157 (Hr hi157 (Hc hb))
      refine Ht (hK87 (G3 (JLh (G0 ((i84+1:Nat):Int)) (Hx (Ho hk84 hm56) O O O) O (Yv (G0 ((i84+1:Nat):Int)) O (G7 (e84 _ _ (i84+1) s157 (app1 hn84 h) (by omega) ⟨(by repeat' constructor),⟨⟨_,rfl,.map⟩,G⟩,rfl⟩))))))
   ·
    have h:=app1 hkx84 (Hr hi84 (Hc hb))
    refine Ht (hK82 (Js fun hK169=>Jr fun hK170=>(Yv (.mp 1087) O (JLh (.it 1088) (Jac 1088 (m:=s84) O O O O G6b) O (G7 (hK170 (Gw ?_)))))))
    obtain⟨b176,kx176,hb176,hkx176,h⟩:=J88 h
    refine Ja4 (H8.size s84) (fun i176 (s176:Unit)=>MInv b176 kx176 (H8.l s84) i176 s176) (fun i176 s176=>[(115,.it 1088)]) (fun i176 s176=>[(1087,MP 126 Ha.kv G0 s84),(1088,.iter 1087 (H8.size s84) i176)]) () (MInv.start h hp) ⟨⟨.same O,G⟩,⟨⟨_,O,.map⟩,⟨_,O,.iter O⟩,G⟩,O⟩ ?_
    clear h hp
    intro i176 s176 hi176 K176 e176
    refine Jr fun hK177=>G68 O O O (Jc5 (m:=s84) O O O O) ?_
    intro u_ L_ hn_
    rcases hn_ with ⟨q176,x176,he176,hs176,rfl,rfl⟩ | ⟨ha176,rfl,rfl⟩
    ·
     obtain⟨o176,h,ho1_176,ho2_176⟩:=hi176.step he176 hs176
     replace h:=app3 hb176 h
     refine JLh (BL true) (Gn O O O) O (G7 (hK177 (Js fun hK178=>Ja5 O (Gr (hK178 (Gw (Jr fun hK179=>(JLh (.tup [.agg (Ha.cs x176.1),G0 x176.2]) (Jb0 (kv:=Ha.kv) (av:=G0) (m:=s84) (q:=q176) (seen:=i176) (e:=x176) O O O O he176) O (JLh (G0 x176.2) (Gn O O O) O (Yv (G0 x176.2) O (G7 (hK179 (Jr fun hK180=>(Yv (G0 x176.2) O (JLh (BL (decide (1 < x176.2))) (G35 O O O) O (G7 (hK180 (JCc O h (fun h hb=>?_) (fun h hb=>?_)))))))))))))))))))
     ·
      refine Jr fun hK181=>(Yv (BL false) O (G7 (hK181 (Gx ?_))))
      obtain⟨y_,hy_,hl_⟩:=lft_out h
      exact⟨[BL false],[],G,O,⟨⟨_,O,.conv (.same O)⟩,G⟩,O,false,Eq.mpr (Option.some.inj hl_) (ho1_176 y_ hy_),O⟩
     ·
      refine Gr (e176 _ _ (i176++[q176]) () (ho2_176 _ (Option.some.inj h).symm) (Hea (List.getElem?_eq_some_iff.1 he176).1 hs176) ⟨⟨.same O,G⟩,⟨⟨_,O,.map⟩,⟨_,O,.iter O⟩,G⟩,O⟩)
    ·
     obtain⟨p_,h,hp⟩:=hi176.done ha176
     replace h:=app1 hkx176 h
     refine JLh (BL false) (Gn O O O) O (G7 (hK177 (Js fun hK182=>Ja6 O (Ht (hK169 (Jr fun hK183=>(Yv (BL true) O (G7 (hK183 (Gx (⟨[BL true],[],G,O,⟨⟨_,O,.conv (.same O)⟩,G⟩,O,true,Eq.mpr (Option.some.inj h) hp,O⟩)))))))))))
theorem Ja0 (S_:(Gp)→Option Bool) (hS_:∀ s r,S_ s=some r→∃ p:Prop,G8b s (fun r_=>r_=r)=some p∧p) (s:Gp) (r:Bool) (h:S_ s=some r):Pure Ek 28 [.agg (Gp.cs s)] (·=BL r):=by
 obtain⟨p,h1,h2⟩:=hS_ s r h
 exact(J9f s _ p h1 h2).monoP (fun av hh=>by obtain⟨r_,rfl,ha⟩:=hh; exact ha)

def G07 (size:Int):Option (List Int):=
 bif decide (size=40) then
 (some [0])
 else
 (bif decide (size=20) then
  (some [1,2])
  else
  (some []))
theorem H39 (size:Int) (r:(List Int)) (h:G07 size=some r):Pure Ek 67 [U8 size] (·=Ea r):=by
 unfold G07 at h
 refine H6 [.tmp 2] Tryz.func67 O O (Jr fun hK1=>(JLh (Ea ([]:List Int)) (Hf 1 O O) O (G7 (hK1 (Js fun hK2=>Jr fun hK3=>(Yv (U8 size) O (G7 (hK3 (Gw (Jr fun hK4=>(JLh (BL (decide (size=40))) (Q0 O O O) O (Yv (BL (decide (size=40))) O (G7 (hK4 (JCc O h (fun h hb=>?_) (fun h hb=>?_))))))))))))))))
 ·
  refine Jr fun hK5=>(JLh (Ea [0]) (H9 (xs:=[U8 0]) O ⟨O,O,G⟩ G47 J40 O O O O) O (Yv (Ea [0]) O (G7 (hK5 (Gx (fin1 (fun r:(List Int)=>(Ea r:AV)) h))))))
 ·
  refine Jr fun hK6=>(JLh (BL (decide (size=20))) (Q0 O O O) O (Yv (BL (decide (size=20))) O (G7 (hK6 (JCc O h (fun h hb=>?_) (fun h hb=>?_))))))
  ·
   refine Jr fun hK7=>(JLh (Ea [1,2]) (H9 (xs:=[U8 1,U8 2]) O ⟨O,O,O,O,G⟩ G47 J40 O O O O) O (Yv (Ea [1,2]) O (G7 (hK7 (Gx (fin1 (fun r:(List Int)=>(Ea r:AV)) h))))))
  ·
   refine Gr (hK2 (Jr fun hK8=>(JLh (Ea ([]:List Int)) (Hf 1 O O) O (G7 (hK8 (Gx (fin1 (fun r:(List Int)=>(Ea r:AV)) h)))))))

def G89 (p1:Gp) (p2:Int) (ys_:List Slot):Option Unit:=
 each (fun y2 i2 (s2:Nat) nx2=>
  need (decide ((max y2.Tiers 0)≤9223372036854775807)) <|
  upto (fun i8 (s8:Nat) nx8=>
   bnd (G07 p2) fun r14=>
   each (fun y29 i29 (s29:Nat) nx29=>
    need (decide (ys_[s29]? = some (Slot.mk (i2:Int) (i8:Int) y29))) <|
    nx29 (s29+1))
   (fun(s29:Nat)=>
    nx8 s29) r14 0 s8)
  (fun(s8:Nat)=>
   nx2 s8) (max y2.Tiers 0).toNat 0 s2)
 (fun(s2:Nat)=>
  need (decide (s2=ys_.length)) (some ())) p1.Columns 0 0
theorem J02 (p1:Gp) (p2:Int) (ys_:List Slot) (q_:Unit) (h:G89 p1 p2 ys_=some q_):Iter Ek 111 [.dptr (Gp.cs p1),.dptr [U8 p2]] (ys_.map (fun y:Slot=>[.agg [G0 y.G4,G0 y.Tier,U8 y.Half]])):=by
 unfold G89 at h
 refine Iter_of Tryz.func111 O O ?_
 intro E hE hys
 refine Yf (fun K1 hK1=>Qj (Hs (u:=Ec p1) hE (Gf Jc O O O) ?_ O O O O))
 refine Hs (u:=E3 p1.Columns) hE (Gj Jv O O O) ?_ O O O O
 refine Ja3 hE (f:=G4.av) (xs:=p1.Columns) Ji O O (fun hm11=>?_) O O O
 refine Hs (u:=G0 0) hE (G5 O O) ?_ O O O O
 refine Y3 ?_
 refine hK1 _ _ _ (Gb3 ?_)
 obtain⟨b2,kx2,hb2,hkx2,h⟩:=J0 h
 refine Hdc (fun i2 (s2:Nat)=>each b2 kx2 (List.drop i2 p1.Columns) i2 s2=some q_) (fun i2 s2=>[(0,.sc (.func (.yield E.lp) #[] #[])),(2,.dptr [U8 p2]),(10,E3 p1.Columns),(11,Ej p1.Columns.length),(12,Ej i2)]) (fun i2 s2=>[]) (fun i2 s2=>s2) (fun i2=>p1.Columns.length - i2) 0 0 h ⟨(by repeat' constructor),G,rfl⟩ rfl ?_
 clear h
 intro i2 s2 hi2 K2 e2
 refine Yf (fun K3 hK3=>Qj (Hs (u:=BL (decide ((i2:Int) < (p1.Columns.length:Int)))) hE (Jb O O O) ?_ O O O O))
 refine Y3 ?_
 refine hK3 _ _ _ (Yf (fun K4 hK4=>Gfd O (fun hb=>?_) (fun hb=>?_)))
 ·
  have hk2:=Jk hb
  obtain⟨y2,nx2,hy2,hn2,h⟩:=Hq hi2 hk2
  replace h:=Ya hb2 h
  refine H32 (hK4 _ _ _ (Yf (fun K5 hK5=>Gb3 (Yf (fun K6 hK6=>Qj (Hs (u:=Ej i2) hE (G5 O O) ?_ O O O O))))))
  refine Hs (u:=Ee y2) hE (Hb (f:=G4.av) (xs:=p1.Columns) (y:=y2) O O O Ji hy2 O) ?_ O O O O
  refine Hs (u:=.agg (G4.cs y2)) hE (Gh G3a O O O) ?_ O O O O
  refine Hs (u:=.ptr 1161 0) hE (Hu 1161 12 G17 O O) ?_ O O O O
  refine Hs (u:=Ej i2) hE (G8 O O) ?_ O O O O
  refine JIL_go0 (u:=.junk) hE (Hj (u:=.agg (G4.cs y2)) (ds:=(G4.cs y2)) Gf2 O O O O O O O O) ?_ O O O
  refine Y3 ?_
  refine hK6 _ _ _ (Yf (fun K7 hK7=>Qj (Hs (u:=.ptr 1161 3) hE (Qq G81 O O) ?_ O O O O)))
  refine Hs (u:=G0 y2.Tiers) hE (R9 Gb O O O O) ?_ O O O O
  refine Hs (u:=G0 (max y2.Tiers 0)) hE (A_max O O O) ?_ O O O O
  refine Hs (u:=G0 0) hE (G5 O O) ?_ O O O O
  refine Y3 ?_
  refine hK7 _ _ _ (Gb3 ?_)
  obtain⟨hx8,h⟩:=J7 h
  obtain⟨b8,kx8,hb8,hkx8,h⟩:=J33 h
  refine Hdc (fun i8 (s8:Nat)=>upto b8 kx8 ((max y2.Tiers 0).toNat - i8) i8 s8=some q_) (fun i8 s8=>[(0,.sc (.func (.yield E.lp) #[] #[])),(2,.dptr [U8 p2]),(4,Ej i2),(10,E3 p1.Columns),(11,Ej p1.Columns.length),(12,Ej i2),(19,G0 (max y2.Tiers 0)),(20,Ej i8)]) (fun i8 s8=>[(1161,.box 110 (G4.cs y2))]) (fun i8 s8=>s8) (fun i8=>(max y2.Tiers 0).toNat - i8) 0 s2 h ⟨(by repeat' constructor),⟨⟨_,rfl,.boxL rfl (by repeat' constructor)⟩,G⟩,rfl⟩ rfl ?_
  clear h
  intro i8 s8 hi8 K8 e8
  refine Yf (fun K9 hK9=>Qj (Hs (u:=BL (decide ((i8:Int) < (max y2.Tiers 0)))) hE (Jb O O O) ?_ O O O O))
  refine Y3 ?_
  refine hK9 _ _ _ (Yf (fun K10 hK10=>Gfd O (fun hb=>?_) (fun hb=>?_)))
  ·
   have hk8:=Hc9 hb
   obtain⟨nx8,hn8,h⟩:=Hb8 hi8 hk8
   replace h:=app3 hb8 h
   refine H32 (hK10 _ _ _ (Yf (fun K11 hK11=>Gb3 (Yf (fun K12 hK12=>Qj (Hs (u:=Ej i8) hE (G5 O O) ?_ O O O O))))))
   refine Hs (u:=Ej i8) hE (G8 O O) ?_ O O O O
   refine Y3 ?_
   refine hK12 _ _ _ (Yf (fun K13 hK13=>Qj (Hs (u:=U8 p2) hE (Gj Ja O O O) ?_ O O O O)))
   obtain⟨r14,hr14,h⟩:=Gd h
   refine Hs (u:=Ea r14) hE (Gu O (H39 p2 r14 hr14) J55 ⟨O,O,G⟩) ?_ O O O O
   refine Ja3 hE (f:=U8) (xs:=r14) G47 O O (fun hm25=>?_) O O O
   refine Hs (u:=G0 0) hE (G5 O O) ?_ O O O O
   refine Y3 ?_
   refine hK13 _ _ _ (Gb3 ?_)
   obtain⟨b29,kx29,hb29,hkx29,h⟩:=J0 h
   refine Hdc (fun i29 (s29:Nat)=>each b29 kx29 (List.drop i29 r14) i29 s29=some q_) (fun i29 s29=>[(0,.sc (.func (.yield E.lp) #[] #[])),(2,.dptr [U8 p2]),(4,Ej i2),(6,Ej i8),(10,E3 p1.Columns),(11,Ej p1.Columns.length),(12,Ej i2),(19,G0 (max y2.Tiers 0)),(20,Ej i8),(24,Ea r14),(25,Ej r14.length),(26,Ej i29)]) (fun i29 s29=>[(1161,.box 110 (G4.cs y2))]) (fun i29 s29=>s29) (fun i29=>r14.length - i29) 0 s8 h ⟨(by repeat' constructor),⟨⟨_,rfl,.boxL rfl (by repeat' constructor)⟩,G⟩,rfl⟩ rfl ?_
   clear h
   intro i29 s29 hi29 K29 e29
   refine Yf (fun K30 hK30=>Qj (Hs (u:=BL (decide ((i29:Int) < (r14.length:Int)))) hE (Jb O O O) ?_ O O O O))
   refine Y3 ?_
   refine hK30 _ _ _ (Yf (fun K31 hK31=>Gfd O (fun hb=>?_) (fun hb=>?_)))
   ·
    have hk29:=Jk hb
    obtain⟨y29,nx29,hy29,hn29,h⟩:=Hq hi29 hk29
    replace h:=Ya hb29 h
    refine H32 (hK31 _ _ _ (Yf (fun K32 hK32=>Gb3 (Yf (fun K33 hK33=>Qj (Hs (u:=.dptr [U8 y29]) hE (Hb (f:=U8) (xs:=r14) (y:=y29) O O O G47 hy29 O) ?_ O O O O))))))
    refine Hs (u:=U8 y29) hE (Gj Ja O O O) ?_ O O O O
    refine Hs (u:=U8 y29) hE (G8 O O) ?_ O O O O
    refine Y3 ?_
    refine hK33 _ _ _ (Yf (fun K34 hK34=>Qj (Hs (u:=.sc (.func (.yield E.lp) #[] #[])) hE (G5 O O) ?_ O O O O)))
    refine Hs (u:=Ej i2) hE (G5 O O) ?_ O O O O
    refine Hs (u:=Ej i8) hE (G5 O O) ?_ O O O O
    refine Hs (u:=U8 y29) hE (G5 O O) ?_ O O O O
    refine Hs (u:=.agg [Ej i2,Ej i8,U8 y29]) hE (Hz (cs:=[Ej i2,Ej i8,U8 y29]) [(0,1),(1,1),(2,1)] [G0 0,G0 0,U8 0] [.int .i64 0,.int .i64 0,.int .u8 0] G1b G6a ⟨.inl O,.inl O,.inl O,G⟩ O O) ?_ O O O O
    obtain⟨ha35,h⟩:=J7 h
    refine JIL_yield (us:=[.agg [Ej i2,Ej i8,U8 y29]]) hE O O ⟨O,O,G⟩ (yld_at (f:=(fun y:Slot=>[.agg [G0 y.G4,G0 y.Tier,U8 y.Half]])) (x:=(Slot.mk (i2:Int) (i8:Int) y29)) hys ha35) ?_ O O O
    refine Hs (u:=BL false) hE (Ru (b:=true) O O) ?_ O O O O
    refine Y3 ?_
    refine hK34 _ _ _ (JI_condF O (H32 (hK32 _ _ _ (Qj (Hs (u:=G0 ((i29+1:Nat):Int)) hE (Hx (Ho hk29 hm25) O O O) ?_ O O O O)))))
    refine Hs (u:=G0 ((i29+1:Nat):Int)) hE (G5 O O) ?_ O O O O
    refine Y3 ?_
    exact e29 _ _ (i29+1) (s29+1) _ (app1 hn29 h) (by omega) ⟨(by repeat' constructor),⟨⟨_,rfl,.boxL rfl (by repeat' constructor)⟩,G⟩,rfl⟩ rfl
   ·
    have h:=app1 hkx29 (Hr hi29 (Hc hb))
    refine J3c (hK11 _ _ _ (Qj (Hs (u:=G0 ((i8+1:Nat):Int)) hE (Hx (Ho hk8 (H67 hx8)) O O O) ?_ O O O O)))
    refine Hs (u:=G0 ((i8+1:Nat):Int)) hE (G5 O O) ?_ O O O O
    refine Y3 ?_
    exact e8 _ _ (i8+1) s29 _ (app1 hn8 h) (by omega) ⟨(by repeat' constructor),⟨⟨_,rfl,.boxL rfl (by repeat' constructor)⟩,G⟩,rfl⟩ rfl
  ·
   have h:=app1 hkx8 (Hb9 hi8 (Gc0 hb))
   refine J3c (hK5 _ _ _ (Qj (Hs (u:=G0 ((i2+1:Nat):Int)) hE (Hx (Ho hk2 hm11) O O O) ?_ O O O O)))
   refine Hs (u:=G0 ((i2+1:Nat):Int)) hE (G5 O O) ?_ O O O O
   refine Y3 ?_
   exact e2 _ _ (i2+1) s8 _ (app1 hn2 h) (by omega) ⟨(by repeat' constructor),G,rfl⟩ rfl
 ·
  have h:=app1 hkx2 (Hr hi2 (Hc hb))
  refine J3c (yld_end (J7 h).1)
theorem J03 (S_:(Gp)→(Int)→Option (List Slot)) (hS_:∀ p1 p2 r,S_ p1 p2=some r→G89 p1 p2 r=some ()) (p1:Gp) (p2:Int) (r:List Slot) (h:S_ p1 p2=some r):Iter Ek 111 [.dptr (Gp.cs p1),.dptr [U8 p2]] (r.map (fun y:Slot=>[.agg [G0 y.G4,G0 y.Tier,U8 y.Half]])):=J02 p1 p2 r () (hS_ p1 p2 r h)
end
end Go.Proofs.YtpgkkengffpnpaaGreat
