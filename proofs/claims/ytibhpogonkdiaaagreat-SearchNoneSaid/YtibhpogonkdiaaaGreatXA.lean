/- Walks of functions. -/
import Derived.Test.YtibhpogonkdiaaaGreatSortLay
import Derived.Test.YtibhpogonkdiaaaGreatIterJ
import Derived.Test.YtibhpogonkdiaaaGreatGiv
import Derived.Test.YtibhpogonkdiaaaGreatGiv
import Derived.Test.YtibhpogonkdiaaaGreatIterJ
import Derived.Test.YtibhpogonkdiaaaGreatGiv
set_option linter.unnecessarySimpa false
set_option maxRecDepth 100000
set_option maxHeartbeats 1000000
set_option linter.unusedVariables false
set_option linter.unusedSimpArgs false
namespace Go.Proofs.YtibhpogonkdiaaaGreat
open Go.RowKit
noncomputable section
abbrev En:=Tryz.prog
structure Hi where
 n:Int
 low:Int
 high:Int
 deriving DecidableEq,Inhabited
def Hi.cs (x:Hi):List AV:=[I64 x.n,I64 x.low,I64 x.high]
def Hi.av (x:Hi):AV:=.agg x.cs
structure G4 where
 Bay:Int
 Row:Int
 Deck:Bool
 Tiers:Int
 Height:Int
 Kilos20:Int
 Kilos40:Int
 Lash:Int
 Plugs:List Int
 X:Int
 Y:Int
 Z:Int
 deriving DecidableEq,Inhabited
def G4.cs (x:G4):List AV:=[I64 x.Bay,I64 x.Row,BL x.Deck,I64 x.Tiers,I64 x.Height,I64 x.Kilos20,I64 x.Kilos40,I64 x.Lash,E5 x.Plugs,I64 x.X,I64 x.Y,I64 x.Z]
def G4.av (x:G4):AV:=.agg x.cs
abbrev Ei (x:G4):AV:=.dptr (G4.cs x)
abbrev E7:=LS 12 G4.av
structure Gs where
 Bay:Int
 Rows:List Int
 deriving DecidableEq,Inhabited
def Gs.cs (x:Gs):List AV:=[I64 x.Bay,E5 x.Rows]
def Gs.av (x:Gs):AV:=.agg x.cs
abbrev E9:=LS 2 Gs.av
structure Light where
 Kilos:Int
 X:Int
 Y:Int
 Z:Int
 deriving DecidableEq,Inhabited
def Light.cs (x:Light):List AV:=[I64 x.Kilos,I64 x.X,I64 x.Y,I64 x.Z]
def Light.av (x:Light):AV:=.agg x.cs
structure Row where
 Draught:Int
 Kilos:Int
 Buoy:Int
 Metacentre:Int
 R40:Int
 deriving DecidableEq,Inhabited
def Row.cs (x:Row):List AV:=[I64 x.Draught,I64 x.Kilos,I64 x.Buoy,I64 x.Metacentre,I64 x.R40]
def Row.av (x:Row):AV:=.agg x.cs
abbrev Ea:=LS 5 Row.av
structure Frame where
 X:Int
 Light:Int
 Share:Int
 Shear:Int
 Bend:Int
 deriving DecidableEq,Inhabited
def Frame.cs (x:Frame):List AV:=[I64 x.X,I64 x.Light,I64 x.Share,I64 x.Shear,I64 x.Bend]
def Frame.av (x:Frame):AV:=.agg x.cs
abbrev Eb:=LS 5 Frame.av
structure Hu where
 Kilos:Int
 X:Int
 Y:Int
 Z:Int
 Surface:Int
 Steps:List Int
 deriving DecidableEq,Inhabited
def Hu.cs (x:Hu):List AV:=[I64 x.Kilos,I64 x.X,I64 x.Y,I64 x.Z,I64 x.Surface,E5 x.Steps]
def Hu.av (x:Hu):AV:=.agg x.cs
abbrev Ec:=LS 6 Hu.av
structure Gi where
 Tolerance:Int
 Trim:Int
 List_:Int
 Stability:Int
 deriving DecidableEq,Inhabited
def Gi.cs (x:Gi):List AV:=[I64 x.Tolerance,I64 x.Trim,I64 x.List_,I64 x.Stability]
def Gi.av (x:Gi):AV:=.agg x.cs
structure Gb where
 Columns:List G4
 Covers:List Gs
 Light:Light
 Rows:List Row
 Frames:List Frame
 Tanks:List Hu
 Gi:Gi
 deriving DecidableEq,Inhabited
def Gb.cs (x:Gb):List AV:=[E7 x.Columns,E9 x.Covers,I64 x.Light.Kilos,I64 x.Light.X,I64 x.Light.Y,I64 x.Light.Z,Ea x.Rows,Eb x.Frames,Ec x.Tanks,I64 x.Gi.Tolerance,I64 x.Gi.Trim,I64 x.Gi.List_,I64 x.Gi.Stability]
def Gb.av (x:Gb):AV:=.agg x.cs
abbrev Ef (x:Gb):AV:=.dptr (Gb.cs x)
structure H6 where
 e0:Int
 e1:Int
 e2:Int
 deriving DecidableEq,Inhabited
def H6.cs (x:H6):List AV:=[I64 x.e0,I64 x.e1,I64 x.e2]
def H6.av (x:H6):AV:=.agg x.cs
def H6.ks (x:H6):List Value:=[.int .i64 x.e0,.int .i64 x.e1,.int .i64 x.e2]
def H6.kv (x:H6):Value:=.agg x.ks.toArray
structure Slot where
 G4:Int
 Tier:Int
 Half:Int
 deriving DecidableEq,Inhabited
def Slot.cs (x:Slot):List AV:=[I64 x.G4,I64 x.Tier,U8 x.Half]
def Slot.av (x:Slot):AV:=.agg x.cs
abbrev Ej (x:Slot):AV:=.dptr (Slot.cs x)
abbrev E8:=LS 3 Slot.av
structure G1 where
 Box:Int
 Slot:Slot
 deriving DecidableEq,Inhabited
def G1.cs (x:G1):List AV:=[I64 x.Box,I64 x.Slot.G4,I64 x.Slot.Tier,U8 x.Slot.Half]
def G1.av (x:G1):AV:=.agg x.cs
abbrev Eg (x:G1):AV:=.dptr (G1.cs x)
abbrev E4:=LS 4 G1.av
structure G5b where
 States:List (List G1)
 Water:List (List Int)
 deriving DecidableEq,Inhabited
def G5b.cs (x:G5b):List AV:=[LS 1 (E4) x.States,LS 1 (E5) x.Water]
def G5b.av (x:G5b):AV:=.agg x.cs
structure H5 where
 Load:Int
 Discharge:Int
 deriving DecidableEq,Inhabited
def H5.cs (x:H5):List AV:=[I64 x.Load,I64 x.Discharge]
def H5.av (x:H5):AV:=.agg x.cs
structure G8 where
 H5:H5
 Whole:Int
 Half:Int
 deriving DecidableEq,Inhabited
def G8.cs (x:G8):List AV:=[I64 x.H5.Load,I64 x.H5.Discharge,I64 x.Whole,I64 x.Half]
def G8.av (x:G8):AV:=.agg x.cs
structure Box where
 ID:Int
 Number:ByteArray
 Size:Int
 High:Bool
 Kilos:Int
 Load:Int
 Discharge:Int
 Class:Int
 Reefer:Bool
 deriving DecidableEq,Inhabited
def Box.cs (x:Box):List AV:=[I64 x.ID,ST x.Number,U8 x.Size,BL x.High,I64 x.Kilos,I64 x.Load,I64 x.Discharge,U8 x.Class,BL x.Reefer]
def Box.av (x:Box):AV:=.agg x.cs
abbrev Eh (x:Box):AV:=.dptr (Box.cs x)
abbrev E6:=LS 9 Box.av
def H5.ks (x:H5):List Value:=[.int .i64 x.Load,.int .i64 x.Discharge]
def G8.vs (x:G8):List Value:=[.int .i64 x.H5.Load,.int .i64 x.H5.Discharge,.int .i64 x.Whole,.int .i64 x.Half]
namespace XAF
theorem Y52 (a b:H6):H93 En 4 139 [.int .i64 a.e0,.int .i64 a.e1,.int .i64 a.e2] [.int .i64 b.e0,.int .i64 b.e1,.int .i64 b.e2]=some (decide (a=b)):=by
 refine(show _=some ((a.e0==b.e0)&&((a.e1==b.e1)&&((a.e2==b.e2)&&true))) by kernel_rfl).trans (congrArg some ?_)
 rw [Bool.eq_iff_iff]
 simp only [Ma,beq_iff_eq,Mb,Bool.and_true]
 constructor
 ·intro h; obtain⟨_,_,_⟩:=a; obtain⟨_,_,_⟩:=b; simp_all
 ·intro h; subst h; simp
theorem H5d:Gb8 En 137 2=true:=by kernel_rfl
theorem R18:Gb8 En 185 3=true:=by kernel_rfl
theorem Ys:Gb8 En 37 9=true:=by kernel_rfl
theorem G65:Gb8 En 41 12=true:=by kernel_rfl
theorem Jb1:Y1b En 139 3 1=true:=by kernel_rfl
theorem Ja9:Hh En 42=true:=by kernel_rfl
theorem H0c:Hh En 43=true:=by kernel_rfl
theorem R06:Hh En 56=true:=by kernel_rfl
theorem Ja4:Hh En 73=true:=by kernel_rfl
theorem Ja1:Hh En 79=true:=by kernel_rfl
theorem J9d:Hh En 97=true:=by kernel_rfl
theorem G9f:Ju En 137 0 0=true:=by kernel_rfl
theorem G9e:Ju En 137 1 1=true:=by kernel_rfl
theorem H7f:Ju En 185 0 0=true:=by kernel_rfl
theorem J96:Ju En 185 1 1=true:=by kernel_rfl
theorem J95:Ju En 185 2 2=true:=by kernel_rfl
theorem Hm:Ju En 34 0 0=true:=by kernel_rfl
theorem G20:Ju En 34 1 1=true:=by kernel_rfl
theorem Z6:Ju En 37 2 2=true:=by kernel_rfl
theorem Rv:Ju En 37 5 5=true:=by kernel_rfl
theorem Yj:Ju En 37 6 6=true:=by kernel_rfl
theorem G49:Ju En 41 0 0=true:=by kernel_rfl
theorem G48:Ju En 41 1 1=true:=by kernel_rfl
theorem H7e:Ju En 41 10 10=true:=by kernel_rfl
theorem H08:Ju En 41 11 11=true:=by kernel_rfl
theorem G47:Ju En 41 2 2=true:=by kernel_rfl
theorem Yi:Ju En 41 3 3=true:=by kernel_rfl
theorem Hcb:Ju En 41 4 4=true:=by kernel_rfl
theorem Q03:Ju En 41 5 5=true:=by kernel_rfl
theorem Q02:Ju En 41 6 6=true:=by kernel_rfl
theorem Q01:Ju En 41 7 7=true:=by kernel_rfl
theorem Hca:Ju En 41 8 8=true:=by kernel_rfl
theorem Hc9:Ju En 41 9 9=true:=by kernel_rfl
theorem Yh:Ju En 48 0 0=true:=by kernel_rfl
theorem G86:G14 En 138 139 3=true:=by kernel_rfl
theorem Q3:En.follows .mixedOrders=true:=by kernel_rfl
theorem Rs:placesOf En 185=some [(0,1),(1,1),(2,1)]:=by kernel_rfl
theorem G9d:placesOf En 63=some [(0,1),(1,1),(2,1)]:=by kernel_rfl
theorem J3:R9 En 24=true:=by kernel_rfl
theorem G9c:R9 En 25=true:=by kernel_rfl
theorem G9:R9 En 3=true:=by kernel_rfl
theorem Qt:R9 En 39=true:=by kernel_rfl
theorem Y5:R9 En 4=true:=by kernel_rfl
theorem Q1:R9 En 42=true:=by kernel_rfl
theorem Jc:R9 En 5=true:=by kernel_rfl
theorem Yk:R9 En 59=true:=by kernel_rfl
theorem J52:Re En 137 2=true:=by kernel_rfl
theorem Q8c:Re En 185 3=true:=by kernel_rfl
theorem G00:Re En 3 1=true:=by kernel_rfl
theorem Y1:Re En 37 9=true:=by kernel_rfl
theorem Gbe:Re En 41 12=true:=by kernel_rfl
theorem Gf3:sliceB En 183 185 3=true:=by kernel_rfl
theorem Ho:sliceB En 24 41 12=true:=by kernel_rfl
theorem G0f:sliceB En 25 137 2=true:=by kernel_rfl
theorem Hw:sliceB En 38 37 9=true:=by kernel_rfl
theorem H1:sliceB En 39 3 1=true:=by kernel_rfl
theorem J8:sliceB En 42 59 1=true:=by kernel_rfl
theorem Yv:sliceB En 54 5 1=true:=by kernel_rfl
theorem J4f:(En.info? 139).bind (fun i=>i.zero.map Value.cells)=some (List.toArray [E0,E0,E0]):=by kernel_rfl
theorem Zb:(En.info? 185).bind (fun i=>i.zero.map Value.cells)=some (List.toArray [E0,E0,E0]):=by kernel_rfl
theorem Gbc:(En.info? 63).bind (fun i=>i.zero.map Value.cells)=some (List.toArray [E0,E0,.int .u8 0]):=by kernel_rfl
theorem Gf2:Qo En 137 2=true:=by kernel_rfl
theorem H58:Qo En 185 3=true:=by kernel_rfl
theorem Rb:Qo En 3 1=true:=by kernel_rfl
theorem Qm:Qo En 37 9=true:=by kernel_rfl
theorem Yu:Qo En 41 12=true:=by kernel_rfl
theorem Hd5:Qo En 5 1=true:=by kernel_rfl
theorem H57:(En.info? 3).bind (·.zero)=some E0:=by kernel_rfl
theorem J2a:Ge3 En 139 H6.kv:=Ge3.of_eq H6.ks (by kernel_rfl) (fun a b h=>by simp only [H6.ks,List.cons.injEq,Value.int.injEq,Value.bool.injEq,Value.string.injEq,true_and,and_true] at h; obtain⟨_,_,_⟩:=a; obtain⟨_,_,_⟩:=b; simp_all) 4 (by decide) (fun a b=>Y52 a b) (fun a=>by kernel_rfl) (fun a=>by simp [Instr.sameBits,H6.ks])
end XAF
open XAF

def G31 (l:List Hi):Option Bool:=
 each (fun a d (c:Unit) b=>
  bif ((decide (a.n < a.low))||(decide (a.high < a.n))) then
  (some false)
  else
  (b ()))
 (fun(c:Unit)=>
  some true) l 0 ()
theorem H4e (l:List Hi) (r:Bool) (h:G31 l=some r):Pure En 97 [LS 3 Hi.av l] (·=BL r):=by
 unfold G31 at h
 refine Ha [.tmp 2] Tryz.func97 O O (Jr fun x=>(JLm (BL false) O (G6 (x (Js fun z=>Jr fun a0=>(JLm (LS 3 Hi.av l) O (JLl Gf3 O O O fun a1=>(JLm (I64 0) O (G6 (a0 (Gk ?_)))))))))))
 obtain⟨a2,i,j,g,h⟩:=J5 h
 refine Hk (fun b (c:Unit)=>each a2 i (List.drop b l) b c=some r) (fun b c=>[(5,LS 3 Hi.av l),(6,Em l.length),(7,Em b)]) (fun b c=>[]) (fun b=>l.length - b) 0 () h ⟨(.sm O O),ø,O⟩ ?_
 clear h
 intro b c d a5 a3
 refine Jr fun k=>(JLh (BL (decide ((b:Int) < (l.length:Int)))) (Jf O O O) O (G6 (k (Js fun m=>Gn O (fun hb=>?_) (fun hb=>?_)))))
 ·
  have e:=Jn hb
  obtain⟨a,a4,o,p,h⟩:=Hs d e
  replace h:=Rx j h
  refine Gp (m (Js fun q=>Gk (Jr fun s=>(JLh (.dptr [I64 a.n,I64 a.low,I64 a.high]) (H4 (f:=Hi.av) (xs:=l) (y:=a) O O O Gf3 o O) O (JLh (.agg [I64 a.n,I64 a.low,I64 a.high]) (Gg R18 O O O) O (JLh (.ptr 1175 0) (Hc 1175 3 H58 O O) O (Hb (u:=.junk) (H0 (u:=.agg [I64 a.n,I64 a.low,I64 a.high]) (ds:=[I64 a.n,I64 a.low,I64 a.high]) Q8c O O O O O O O O) (G6 (s (fzQ [(4,.dptr [I64 a.n,I64 a.low,I64 a.high]),(5,LS 3 Hi.av l),(6,Em l.length),(7,Em b)] [] 1175 rfl rfl rfl ø rfl ?_))))))))))
  refine Jr fun t=>(JLh (.dptr [I64 a.n,I64 a.low,I64 a.high]) (Gc H7f O O O) O (JLh (I64 a.n) (Gf G9 O O O) O (JLh (.dptr [I64 a.low,I64 a.high]) (Gc J96 O O O) O (JLh (I64 a.low) (Gf G9 O O O) O (JLh (BL (decide (a.n < a.low))) (Jf O O O) O (JLm (BL (decide (a.n < a.low))) O (JLo (.dptr [I64 a.n,I64 a.low,I64 a.high]) [] O .scf ø (fun hc=>Gc H7f O O O) O (JLo (I64 a.n) [17] O .scf ⟨Ua,ø⟩ (fun hc=>Gf G9 O O O) O (JLo (.dptr [I64 a.high]) [] O .scf ø (fun hc=>Gc J95 O O O) O (JLo (I64 a.high) [19] O .scf ⟨Ua,ø⟩ (fun hc=>Gf G9 O O O) O (JLo (BL (decide (a.high < a.n))) [18,20] O .scf ⟨Ua,Ua,ø⟩ (fun hc=>G46 O O O) O (JLh (BL ((decide (a.n < a.low))||(decide (a.high < a.n)))) (G27 O O O O) O (G6 (t ?_))))))))))))))
  refine JCc O h ?_ ?_<;>intro h hb
  ·
   refine Jr fun v=>(JLm (BL false) O (G6 (v (H2 (fin1 BL h)))))
  ·
   refine Gp (q (G2 (JLh (I64 ((b+1:Nat):Int)) (Hz (He e a1) O O O) O (JLm (I64 ((b+1:Nat):Int)) O (G6 (a3 _ _ (b+1) () (app1 p h) (by omega) ⟨(.sm O O),ø,rfl⟩))))))
 ·
  have h:=app1 g (Ht d (H9 hb))
  refine Hr (z (Jr fun w=>(JLm (BL true) O (G6 (w (H2 (fin1 BL h)))))))

def Zv (c:G4):Option Bool:=
 each (fun d a (f:Unit) e=>
  chk (c.Tiers - 1) fun g=>
  bnd (G31 [(Hi.mk d 0 g)]) fun b=>
  bnd (bif ((!(!b))&&(decide (0 < (a:Int)))) then chk ((a:Int) - 1) some else some 0) fun h=>
  bnd (bif ((!(!b))&&(decide (0 < (a:Int)))) then Q4 c.Plugs h some else some default) fun i=>
  bif ((!b)||((decide (0 < (a:Int)))&&(decide (d≤i)))) then
  (some false)
  else
  (e ()))
 (fun(f:Unit)=>
  bnd (G31 [(Hi.mk c.Bay 0 39),(Hi.mk c.Row 0 30),(Hi.mk c.Tiers 1 10),(Hi.mk c.Height 0 40000),(Hi.mk c.Kilos20 0 500000000),(Hi.mk c.Kilos40 0 500000000),(Hi.mk c.Lash 0 1000000000000),(Hi.mk c.X (-500000) 500000),(Hi.mk c.Y (-500000) 500000),(Hi.mk c.Z (-500000) 500000)]) fun j=>
  some j) c.Plugs 0 ()
abbrev Eo (c:G4):List AV:=[I64 c.Tiers,I64 c.Height,I64 c.Kilos20,I64 c.Kilos40,I64 c.Lash,E5 c.Plugs,I64 c.X,I64 c.Y,I64 c.Z]
theorem Je8 (c:G4) (r:Bool) (h:Zv c=some r):Pure En 56 [.agg (G4.cs c)] (·=BL r):=by
 unfold Zv at h
 refine Ha [.tmp 2] Tryz.func56 O O (Jr fun a7=>(JLh (.ptr 1136 0) (Q5 (cs:=(G4.cs c)) 1136 O O O O O) O (JLm (BL false) O (G6 (a7 (Gj [(1,Ei c)] [] 1136 rfl rfl rfl ø rfl (by exact⟨.ptr,ø⟩) (Jr fun a8=>(JLm (.fn 97 []) O (G6 (a8 (Js fun a9=>Jr fun b0=>(JLh (.dptr [E5 c.Plugs,I64 c.X,I64 c.Y,I64 c.Z]) (Gc Hca O O O) O (JLh (E5 c.Plugs) (Gf Qt O O O) O (JLl H1 O O O fun b1=>(JLm (I64 0) O (G6 (b0 (Gk ?_))))))))))))))))))
 obtain⟨b2,o,p,n,h⟩:=J5 h
 refine Hk (fun a (j:Unit)=>each b2 o (List.drop a c.Plugs) a j=some r) (fun a j=>[(1,Ei c),(3,.fn 97 []),(7,E5 c.Plugs),(8,Em c.Plugs.length),(9,Em a)]) (fun a j=>[]) (fun a=>c.Plugs.length - a) 0 () h ⟨(.sm O O),ø,rfl⟩ ?_
 clear h
 intro a j k b6 b3
 refine Jr fun q=>(JLh (BL (decide ((a:Int) < (c.Plugs.length:Int)))) (Jf O O O) O (G6 (q (Js fun s=>Gn O (fun hb=>?_) (fun hb=>?_)))))
 ·
  have l:=Jn hb
  obtain⟨d,b5,t,v,h⟩:=Hs k l
  replace h:=Rx p h
  refine Gp (s (Js fun w=>Gk (Jr fun x=>(JLm (Em a) O (JLh (.dptr [I64 d]) (H4 (f:=I64) (xs:=c.Plugs) (y:=d) O O O H1 t O) O (JLh (I64 d) (Gf G9 O O O) O (JLm (Em a) O (JLm (I64 d) O (G6 (x (Jr fun z=>(JLm (.fn 97 []) O (JLm (I64 d) O (JLh (.dptr (Eo c)) (Gc Yi O O O) O (JLh (I64 c.Tiers) (Gf G9 O O O) O ?_)))))))))))))))
  obtain⟨e,a0,h⟩:=J6 h
  refine JLh (I64 e) (H35 a0 O O O) O (JLh (.agg [I64 d,I64 0,I64 e]) (Ja (cs:=[I64 d,I64 0,I64 e]) [(0,1),(1,1),(2,1)] [I64 0,I64 0,I64 0] [E0,E0,E0] Rs Zb (zzQ O) O O) O (JLh (LS 3 Hi.av [(Hi.mk d 0 e)]) (H7 (xs:=[.agg [I64 d,I64 0,I64 e]]) O ⟨O,O,ø⟩ Gf3 H58 O O O O) O ?_))
  obtain⟨g,a1,h⟩:=Gh h
  refine JLh (BL g) (G33 (args:=[LS 3 Hi.av [(Hi.mk d 0 e)]]) (caps:=[]) O O (H4e [(Hi.mk d 0 e)] g a1) J9d ⟨O,O,ø⟩ O) O (JLh (BL (!g)) (G1f (b:=g) O O) O (JLm (BL (!g)) O (JLo (Em a) [] O .scf ø (fun hc=>G5 O O) O (JLo (BL (decide (0 < (a:Int)))) [24] O .scf ⟨Ua,ø⟩ (fun hc=>G46 O O O) O (JLo (BL (decide (0 < (a:Int)))) [25] O .scf ⟨Ua,ø⟩ (fun hc=>G5 O O) O (JLo (I64 d) [] O .optt ø (fun hc=>G5 O O) O (JLo (.dptr [E5 c.Plugs,I64 c.X,I64 c.Y,I64 c.Z]) [] O .optt ø (fun hc=>Gc Hca O O O) O (JLo (E5 c.Plugs) [28] O .optt ⟨Ua,ø⟩ (fun hc=>Gf Qt O O O) O (JLo (Em a) [] O .optt ø (fun hc=>G5 O O) O ?_)))))))))
  obtain⟨b4,a2,h⟩:=Gh h
  refine JLo (I64 b4) [30] O .optt ⟨Ua,ø⟩ (fun hc=>H35 (H97 (Hg hc a2)) O O O) O ?_
  obtain⟨i,a3,h⟩:=Gh h
  refine JLo (.dptr [I64 i]) [29,31] O .optt ⟨Ua,Ua,ø⟩ (fun hc=>(match G2d (Hg hc a3) with | ⟨_,hm_,hy_⟩=>H4 (f:=I64) (xs:=c.Plugs) (y:=i) O O O H1 hy_ hm_)) O (JLo (I64 i) [32] O .optt ⟨Ua,ø⟩ (fun hc=>Gf G9 O O O) O (JLo (BL (decide (d≤i))) [27,33] O .optt ⟨Ua,Ua,ø⟩ (fun hc=>H36 O O O) O (Ga (u:=BL ((decide (0 < (a:Int)))&&(decide (d≤i)))) [(26,BL (decide (0 < (a:Int)))),(34,_)] O O O .scf ⟨.all id,.part,ø⟩ (fun hc=>Qr O O O O) ?_)))
  refine JLh (BL ((!g)||((decide (0 < (a:Int)))&&(decide (d≤i))))) (G27 O O O O) O (G6 (z (JCc O h (fun h hb=>?_) (fun h hb=>?_))))
  ·
   refine Jr fun a4=>(JLm (BL false) O (G6 (a4 (H2 (fin1 BL h)))))
  ·
   refine Gp (w (G2 (JLh (I64 ((a+1:Nat):Int)) (Hz (He l b1) O O O) O (JLm (I64 ((a+1:Nat):Int)) O (G6 (b3 _ _ (a+1) () (app1 v h) (by omega) ⟨(.sm O O),ø,rfl⟩))))))
 ·
  have h:=app1 n (Ht k (H9 hb))
  refine Hr (a9 ?_)
  refine Jr fun a5=>(JLm (.fn 97 []) O (JLh (Ei c) (Gc G49 O O O) O (JLh (I64 c.Bay) (Gf G9 O O O) O (JLh (.agg [I64 c.Bay,I64 0,I64 39]) (Ja (cs:=[I64 c.Bay,I64 0,I64 39]) [(0,1),(1,1),(2,1)] [I64 0,I64 0,I64 0] [E0,E0,E0] Rs Zb (zzQ O) O O) O (JLh (.dptr [I64 c.Row,BL c.Deck,I64 c.Tiers,I64 c.Height,I64 c.Kilos20,I64 c.Kilos40,I64 c.Lash,E5 c.Plugs,I64 c.X,I64 c.Y,I64 c.Z]) (Gc G48 O O O) O (JLh (I64 c.Row) (Gf G9 O O O) O (JLh (.agg [I64 c.Row,I64 0,I64 30]) (Ja (cs:=[I64 c.Row,I64 0,I64 30]) [(0,1),(1,1),(2,1)] [I64 0,I64 0,I64 0] [E0,E0,E0] Rs Zb (zzQ O) O O) O (JLh (.dptr (Eo c)) (Gc Yi O O O) O (JLh (I64 c.Tiers) (Gf G9 O O O) O (JLh (.agg [I64 c.Tiers,I64 1,I64 10]) (Ja (cs:=[I64 c.Tiers,I64 1,I64 10]) [(0,1),(1,1),(2,1)] [I64 0,I64 0,I64 0] [E0,E0,E0] Rs Zb (zzQ O) O O) O (JLh (.dptr [I64 c.Height,I64 c.Kilos20,I64 c.Kilos40,I64 c.Lash,E5 c.Plugs,I64 c.X,I64 c.Y,I64 c.Z]) (Gc Hcb O O O) O (JLh (I64 c.Height) (Gf G9 O O O) O (JLh (.agg [I64 c.Height,I64 0,I64 40000]) (Ja (cs:=[I64 c.Height,I64 0,I64 40000]) [(0,1),(1,1),(2,1)] [I64 0,I64 0,I64 0] [E0,E0,E0] Rs Zb (zzQ O) O O) O ?_)))))))))))))
  refine JLh (.dptr [I64 c.Kilos20,I64 c.Kilos40,I64 c.Lash,E5 c.Plugs,I64 c.X,I64 c.Y,I64 c.Z]) (Gc Q03 O O O) O (JLh (I64 c.Kilos20) (Gf G9 O O O) O (JLh (.agg [I64 c.Kilos20,I64 0,I64 500000000]) (Ja (cs:=[I64 c.Kilos20,I64 0,I64 500000000]) [(0,1),(1,1),(2,1)] [I64 0,I64 0,I64 0] [E0,E0,E0] Rs Zb (zzQ O) O O) O (JLh (.dptr [I64 c.Kilos40,I64 c.Lash,E5 c.Plugs,I64 c.X,I64 c.Y,I64 c.Z]) (Gc Q02 O O O) O (JLh (I64 c.Kilos40) (Gf G9 O O O) O (JLh (.agg [I64 c.Kilos40,I64 0,I64 500000000]) (Ja (cs:=[I64 c.Kilos40,I64 0,I64 500000000]) [(0,1),(1,1),(2,1)] [I64 0,I64 0,I64 0] [E0,E0,E0] Rs Zb (zzQ O) O O) O (JLh (.dptr [I64 c.Lash,E5 c.Plugs,I64 c.X,I64 c.Y,I64 c.Z]) (Gc Q01 O O O) O (JLh (I64 c.Lash) (Gf G9 O O O) O (JLh (.agg [I64 c.Lash,I64 0,I64 1000000000000]) (Ja (cs:=[I64 c.Lash,I64 0,I64 1000000000000]) [(0,1),(1,1),(2,1)] [I64 0,I64 0,I64 0] [E0,E0,E0] Rs Zb (zzQ O) O O) O (JLh (.dptr [I64 c.X,I64 c.Y,I64 c.Z]) (Gc Hc9 O O O) O (JLh (I64 c.X) (Gf G9 O O O) O (JLh (.agg [I64 c.X,I64 (-500000),I64 500000]) (Ja (cs:=[I64 c.X,I64 (-500000),I64 500000]) [(0,1),(1,1),(2,1)] [I64 0,I64 0,I64 0] [E0,E0,E0] Rs Zb (zzQ O) O O) O (JLh (.dptr [I64 c.Y,I64 c.Z]) (Gc H7e O O O) O (JLh (I64 c.Y) (Gf G9 O O O) O ?_)))))))))))))
  refine JLh (.agg [I64 c.Y,I64 (-500000),I64 500000]) (Ja (cs:=[I64 c.Y,I64 (-500000),I64 500000]) [(0,1),(1,1),(2,1)] [I64 0,I64 0,I64 0] [E0,E0,E0] Rs Zb (zzQ O) O O) O (JLh (.dptr [I64 c.Z]) (Gc H08 O O O) O (JLh (I64 c.Z) (Gf G9 O O O) O (JLh (.agg [I64 c.Z,I64 (-500000),I64 500000]) (Ja (cs:=[I64 c.Z,I64 (-500000),I64 500000]) [(0,1),(1,1),(2,1)] [I64 0,I64 0,I64 0] [E0,E0,E0] Rs Zb (zzQ O) O O) O (JLh (LS 3 Hi.av [(Hi.mk c.Bay 0 39),(Hi.mk c.Row 0 30),(Hi.mk c.Tiers 1 10),(Hi.mk c.Height 0 40000),(Hi.mk c.Kilos20 0 500000000),(Hi.mk c.Kilos40 0 500000000),(Hi.mk c.Lash 0 1000000000000),(Hi.mk c.X (-500000) 500000),(Hi.mk c.Y (-500000) 500000),(Hi.mk c.Z (-500000) 500000)]) (H7 (xs:=[.agg [I64 c.Bay,I64 0,I64 39],.agg [I64 c.Row,I64 0,I64 30],.agg [I64 c.Tiers,I64 1,I64 10],.agg [I64 c.Height,I64 0,I64 40000],.agg [I64 c.Kilos20,I64 0,I64 500000000],.agg [I64 c.Kilos40,I64 0,I64 500000000],.agg [I64 c.Lash,I64 0,I64 1000000000000],.agg [I64 c.X,I64 (-500000),I64 500000],.agg [I64 c.Y,I64 (-500000),I64 500000],.agg [I64 c.Z,I64 (-500000),I64 500000]]) O ⟨O,O,O,O,O,O,O,O,O,O,O,O,O,O,O,O,O,O,O,O,ø⟩ Gf3 H58 O O O O) O ?_))))
  obtain⟨m,a6,h⟩:=Gh h
  refine JLh (BL m) (G33 (args:=[LS 3 Hi.av [(Hi.mk c.Bay 0 39),(Hi.mk c.Row 0 30),(Hi.mk c.Tiers 1 10),(Hi.mk c.Height 0 40000),(Hi.mk c.Kilos20 0 500000000),(Hi.mk c.Kilos40 0 500000000),(Hi.mk c.Lash 0 1000000000000),(Hi.mk c.X (-500000) 500000),(Hi.mk c.Y (-500000) 500000),(Hi.mk c.Z (-500000) 500000)]]) (caps:=[]) O O (H4e [(Hi.mk c.Bay 0 39),(Hi.mk c.Row 0 30),(Hi.mk c.Tiers 1 10),(Hi.mk c.Height 0 40000),(Hi.mk c.Kilos20 0 500000000),(Hi.mk c.Kilos40 0 500000000),(Hi.mk c.Lash 0 1000000000000),(Hi.mk c.X (-500000) 500000),(Hi.mk c.Y (-500000) 500000),(Hi.mk c.Z (-500000) 500000)] m a6) J9d ⟨O,O,ø⟩ O) O (JLm (BL m) O (G6 (a5 (H2 (fin1 BL h)))))

def Gb3 (s:Gb) (Rp:Bool→Prop):Option Prop:=
 bif (((decide ((s.Columns.length:Int) < 1))||(decide (200 < (s.Columns.length:Int))))||(decide (40 < (s.Covers.length:Int)))) then
 (some (Rp false))
 else
 (each (fun c y (f:(Gt H6 Int)) m=>
   jp (fun g=>
    bif c.Deck then
    (g 1)
    else
    (g 0)) fun(k:Int)=>
   bnd (some (Gt.get f (H6.mk c.Bay c.Row k) 0)) fun v=>
   chk (v+1) fun w=>
   bnd (Zv c) fun x=>
   bif (!x) then
   (some (Rp false))
   else
   (m (Gt.put f (H6.mk c.Bay c.Row k) w)))
  (fun(f:(Gt H6 Int))=>
   each (fun b z (h:(Gt H6 Int)) n=>
    bif (((decide (b.Bay < 0))||(decide (40≤b.Bay)))||(decide ((b.Rows.length:Int)=0))) then
    (some (Rp false))
    else
    (each (fun a d (e:(Gt H6 Int)) i=>
      bnd (bif ((!((decide (a < 0))||(decide (30 < a))))&&(decide (0 < (d:Int)))) then chk ((d:Int) - 1) some else some 0) fun o=>
      bnd (bif ((!((decide (a < 0))||(decide (30 < a))))&&(decide (0 < (d:Int)))) then Q4 b.Rows o some else some default) fun p=>
      bif (((decide (a < 0))||(decide (30 < a)))||((decide (0 < (d:Int)))&&(decide (a≤p)))) then
      (some (Rp false))
      else
      (bnd (some (Gt.get e (H6.mk b.Bay a 2) 0)) fun q=>
       chk (q+1) fun r=>
       i (Gt.put e (H6.mk b.Bay a 2) r)))
     (fun(e:(Gt H6 Int))=>
      n e) b.Rows 0 h))
   (fun(h:(Gt H6 Int))=>
    Q39 (fun(t:H6×Int) (u:Unit) j=>
     bif decide (1 < t.2) then
     (lft (some (Rp false)))
     else
     (j ()))
    (fun(u:Unit)=>
     some (Rp true)) (Gt.l h) ()) s.Covers 0 f) s.Columns 0 (Gt.empty:Gt H6 Int))
def Gfb (s:Gb):Option Bool:=
 bif (((decide ((s.Columns.length:Int) < 1))||(decide (200 < (s.Columns.length:Int))))||(decide (40 < (s.Covers.length:Int)))) then
 (some (id false))
 else
 (each (fun c y (f:(Gt H6 Int)) m=>
   jp (fun g=>
    bif c.Deck then
    (g 1)
    else
    (g 0)) fun(k:Int)=>
   bnd (some (Gt.get f (H6.mk c.Bay c.Row k) 0)) fun v=>
   chk (v+1) fun w=>
   bnd (Zv c) fun x=>
   bif (!x) then
   (some (id false))
   else
   (m (Gt.put f (H6.mk c.Bay c.Row k) w)))
  (fun(f:(Gt H6 Int))=>
   each (fun b z (h:(Gt H6 Int)) n=>
    bif (((decide (b.Bay < 0))||(decide (40≤b.Bay)))||(decide ((b.Rows.length:Int)=0))) then
    (some (id false))
    else
    (each (fun a d (e:(Gt H6 Int)) i=>
      bnd (bif ((!((decide (a < 0))||(decide (30 < a))))&&(decide (0 < (d:Int)))) then chk ((d:Int) - 1) some else some 0) fun o=>
      bnd (bif ((!((decide (a < 0))||(decide (30 < a))))&&(decide (0 < (d:Int)))) then Q4 b.Rows o some else some default) fun p=>
      bif (((decide (a < 0))||(decide (30 < a)))||((decide (0 < (d:Int)))&&(decide (a≤p)))) then
      (some (id false))
      else
      (bnd (some (Gt.get e (H6.mk b.Bay a 2) 0)) fun q=>
       chk (q+1) fun r=>
       i (Gt.put e (H6.mk b.Bay a 2) r)))
     (fun(e:(Gt H6 Int))=>
      n e) b.Rows 0 h))
   (fun(h:(Gt H6 Int))=>
    J07 (fun(t:H6×Int) (u:Unit) j=>
     bif decide (1 < t.2) then
     (lft (some (id false)))
     else
     (j ()))
    (fun(u:Unit)=>
     some (id true)) (Gt.l h) ()) s.Covers 0 f) s.Columns 0 (Gt.empty:Gt H6 Int))
abbrev Ep (s:Gb):List AV:=[E9 s.Covers,I64 s.Light.Kilos,I64 s.Light.X,I64 s.Light.Y,I64 s.Light.Z,Ea s.Rows,Eb s.Frames,Ec s.Tanks,I64 s.Gi.Tolerance,I64 s.Gi.Trim,I64 s.Gi.List_,I64 s.Gi.Stability]
theorem Je9 (s:Gb) (Rp:Bool→Prop) (p:Prop) (h:Gb3 s Rp=some p) (hp:p):Pure En 20 [.agg (Gb.cs s)] (fun av=>∃ r,Rp r∧av=BL r):=by
 unfold Gb3 at h
 refine Ha [.tmp 2] Tryz.func20 O O (Jr fun i8=>(JLh (.ptr 1071 0) (Q5 (cs:=(Gb.cs s)) 1071 O O O O O) O (JLm (BL false) O (G6 (i8 (Gj [(1,Ef s)] [] 1071 rfl rfl rfl ø rfl (by exact⟨.ptr,ø⟩) (Js fun i9=>?_)))))))
 refine Jr fun j0=>(JLh (Ef s) (Gc Hm O O O) O (JLh (E7 s.Columns) (Gf J3 O O O) O (JLl Ho O O O fun k2=>(JLh (BL (decide ((s.Columns.length:Int) < 1))) (Jf O O O) O (JLm (BL (decide ((s.Columns.length:Int) < 1))) O (JLo (Ef s) [] O .scf ø (fun hc=>Gc Hm O O O) O (JLo (E7 s.Columns) [18] O .scf ⟨Ua,ø⟩ (fun hc=>Gf J3 O O O) O (JLo (Em s.Columns.length) [19] O .scf ⟨Ua,ø⟩ (fun hc=>G32 (f:=G4.av) (xs:=s.Columns) Ho O O) O (JLo (BL (decide (200 < (s.Columns.length:Int)))) [20] O .scf ⟨Ua,ø⟩ (fun hc=>G46 O O O) O (JLh (BL ((decide ((s.Columns.length:Int) < 1))||(decide (200 < (s.Columns.length:Int))))) (G27 O O O O) O (JLm (BL ((decide ((s.Columns.length:Int) < 1))||(decide (200 < (s.Columns.length:Int))))) O (JLo (.dptr (Ep s)) [] O .scf ø (fun hc=>Gc G20 O O O) O (JLo (E9 s.Covers) [24] O .scf ⟨Ua,ø⟩ (fun hc=>Gf G9c O O O) O ?_)))))))))))))
 refine JLo (Em s.Covers.length) [25] O .scf ⟨Ua,ø⟩ (fun hc=>G32 (f:=Gs.av) (xs:=s.Covers) G0f O O) O (JLo (BL (decide (40 < (s.Covers.length:Int)))) [26] O .scf ⟨Ua,ø⟩ (fun hc=>G46 O O O) O (JLh (BL (((decide ((s.Columns.length:Int) < 1))||(decide (200 < (s.Columns.length:Int))))||(decide (40 < (s.Covers.length:Int))))) (G27 O O O O) O (G6 (j0 (JCc O h (fun h hb=>?_) (fun h hb=>?_))))))
 ·
  refine Jr fun j1=>(JLm (BL false) O (G6 (j1 (H2 (⟨[BL false],[],ø,O,⟨⟨_,O,.conv (.same O)⟩,ø⟩,O,false,Eq.mpr (Ky h) hp,O⟩)))))
 ·
  refine Gp (i9 (Jr fun j2=>(JLh (.mp 1074) (G5f 1074 H6.kv I64 O O) O (JLm (.mp 1074) O (G6 (j2 (Js fun j3=>Jr fun j4=>(JLh (Ef s) (Gc Hm O O O) O (JLh (E7 s.Columns) (Gf J3 O O O) O (JLl Ho O O O fun f0=>(JLm (I64 0) O (G6 (j4 (Gk ?_))))))))))))))
  obtain⟨j5,f1,f2,c4,h⟩:=J5 h
  refine Hk (fun o (k:(Gt H6 Int))=>each j5 f1 (List.drop o s.Columns) o k=some p) (fun o k=>[(1,Ef s),(3,.mp 1074),(31,E7 s.Columns),(32,Em s.Columns.length),(33,Em o)]) (fun o k=>[(1074,MP 138 H6.kv I64 k)]) (fun o=>s.Columns.length - o) 0 (Gt.empty:Gt H6 Int) h ⟨(.sm O O),⟨fmQ O,ø⟩,rfl⟩ ?_
  clear h
  intro o k b5 k8 j6
  refine Jr fun f3=>(JLh (BL (decide ((o:Int) < (s.Columns.length:Int)))) (Jf O O O) O (G6 (f3 (Js fun f4=>Gn O (fun hb=>?_) (fun hb=>?_)))))
  ·
   have b6:=Jn hb
   obtain⟨g,k3,f5,f6,h⟩:=Hs b5 b6
   replace h:=Rx f2 h
   refine Gp (f4 (Js fun f7=>Gk (Jr fun f8=>(JLh (Ei g) (H4 (f:=G4.av) (xs:=s.Columns) (y:=g) O O O Ho f5 O) O (JLh (.agg (G4.cs g)) (Gg G65 O O O) O (JLh (.ptr 1072 0) (Hc 1072 12 Yu O O) O (Hb (u:=.junk) (H0 (u:=.agg (G4.cs g)) (ds:=(G4.cs g)) Gbe O O O O O O O O) (G6 (f8 ?_)))))))))
   refine fzQ [(1,Ef s),(3,.mp 1074),(5,Ei g),(31,E7 s.Columns),(32,Em s.Columns.length),(33,Em o)] [(1074,MP 138 H6.kv I64 k)] 1072 rfl rfl rfl ⟨fmQ O,ø⟩ rfl (Jr fun f9=>(JLm (I64 0) O (G6 (f9 ?_))))
   obtain⟨g0,c5,h⟩:=Rc h
   refine Qf (fun n:Int=>g0 n=some p) (fun n=>[(1,Ef s),(3,.mp 1074),(5,Ei g),(6,I64 n),(31,E7 s.Columns),(32,Em s.Columns.length),(33,Em o)]) (fun n=>[(1074,MP 138 H6.kv I64 k)]) (fun Kj74 ej74=>?_) ?_
   ·
    refine Jr fun g1=>(JLh (.dptr ((G4.cs g).drop 2)) (Gc G47 O O O) O (JLh (BL g.Deck) (Gf Y5 O O O) O (G6 (g1 (JCc O h (fun h hb=>?_) (fun h hb=>?_))))))
    ·
     refine G2 (JLm (I64 1) O (G6 (ej74 _ _ 1 h ⟨(.sm O O),⟨fmQ O,ø⟩,rfl⟩)))
    ·
     refine Gp (ej74 _ _ 0 h ⟨(.sm O O),⟨fmQ O,ø⟩,rfl⟩)
   ·intro n h
    replace h:=app1 c5 h
    refine Js fun g2=>Ye (l':=[(1,Ef s),(3,.mp 1074),(5,Ei g),(6,I64 n),(31,E7 s.Columns),(32,Em s.Columns.length),(33,Em o)]) (L':=[(1074,MP 138 H6.kv I64 k)]) ⟨(.sm O O),⟨fmQ O,ø⟩,rfl⟩ ?_
    obtain⟨j7,b7,h⟩:=Gh h
    obtain⟨a4,b8,h⟩:=J6 h
    refine R4 [9,11] [0,0,0,0,0,0,0,0,0,0,1,0] [0,0,0,0,0,0,0,1,1,0,1,0] [[(1074,MP 138 H6.kv I64 k)],((1074,MI 138 H6.kv I64 k (H6.mk g.Bay g.Row n) 0)::[(1074,MP 138 H6.kv I64 k)]),((1074,MP 138 H6.kv I64 (Gt.put k (H6.mk g.Bay g.Row n) a4))::((1074,MI 138 H6.kv I64 k (H6.mk g.Bay g.Row n) 0)::[(1074,MP 138 H6.kv I64 k)]))] Q3 (by kernel_rfl) rfl rfl ?_
    refine Gr (u:=.mp 1074) O O ⟨Gm (G5 O O) O,ø⟩ (Gr (u:=Ei g) O O ⟨Gm (Gc G49 O O O) O,ø⟩ (Gr (u:=I64 g.Bay) O O ⟨Gm (Gf G9 O O O) O,ø⟩ (Gr (u:=.dptr ((G4.cs g).drop 1)) O O ⟨Gm (Gc G48 O O O) O,ø⟩ (Gr (u:=I64 g.Row) O O ⟨Gm (Gf G9 O O O) O,ø⟩ (Gr (u:=I64 n) O O ⟨Gm (G5 O O) O,ø⟩ (Gr (u:=.agg [I64 g.Bay,I64 g.Row,I64 n]) O O ⟨Gm (Hf8 (cs:=[I64 g.Bay,I64 g.Row,I64 n]) [E0,E0,E0] Jb1 J4f O O) O,ø⟩ (Gr (u:=I64 j7) O O ⟨Gm (((Ky b7) ▸ H1e (av:=I64) (m:=k) (a:=(H6.mk g.Bay g.Row n)) 0 E0 O O O O J2a G86 H57 O)) O,Gm (((Ky b7) ▸ Jf6 (av:=I64) (m:=k) (a:=(H6.mk g.Bay g.Row n)) 0 E0 O O O O J2a G86 H57 O)) O,ø⟩ (Gr (u:=I64 a4) O O ⟨Gm (Hz b8 O O O) O,Gm (Hz b8 O O O) O,ø⟩ (D_w (u:=.tup [.junk,I64 (G13 (Gt.l k) (H6.mk g.Bay g.Row n):Int)]) O O O O (Gm (J76 (m:=k) (a:=(H6.mk g.Bay g.Row n)) 0 E0 O O O O J2a G86 H57 O) O) (Gr (u:=I64 (G13 (Gt.l k) (H6.mk g.Bay g.Row n):Int)) O O ⟨Gm (Gv O O O) O,ø⟩ (Ha7 (u:=.junk) O O O O (Gm (Hd4 (m:=k) (a:=(H6.mk g.Bay g.Row n)) (v:=a4) 0 O O O O O O) O) (Zg ?_))))))))))))
    refine g2 (Jr fun g3=>(JLh (.agg (G4.cs g)) (Gg G65 O O O) O ?_))
    obtain⟨a5,g4,h⟩:=Gh h
    refine JLh (BL a5) (H3 O (Je8 g a5 g4) R06 ⟨O,O,ø⟩) O (JLh (BL (!a5)) (G1f (b:=a5) O O) O (G6 (g3 (JCc O h (fun h hb=>?_) (fun h hb=>?_)))))
    ·
     refine Jr fun g5=>(JLm (BL false) O (G6 (g5 (H2 (⟨[BL false],[],ø,O,⟨⟨_,O,.conv (.same O)⟩,ø⟩,O,false,Eq.mpr (Ky h) hp,O⟩)))))
    ·
     refine Gp (f7 (G2 (JLh (I64 ((o+1:Nat):Int)) (Hz (He b6 f0) O O O) O (JLm (I64 ((o+1:Nat):Int)) O (G6 (j6 _ _ (o+1) (Gt.put k (H6.mk g.Bay g.Row n) a4) (app1 f6 h) (by omega) ⟨(.sm O O),⟨fmQ O,ø⟩,rfl⟩))))))
  ·
   have h:=app1 c4 (Ht b5 (H9 hb))
   refine Hr (j3 (Js fun g6=>Jr fun g7=>(JLh (.dptr (Ep s)) (Gc G20 O O O) O (JLh (E9 s.Covers) (Gf G9c O O O) O (JLl G0f O O O fun g8=>(JLm (I64 0) O (G6 (g7 (Gk ?_)))))))))
   obtain⟨j8,g9,h0,c6,h⟩:=J5 h
   refine Hk (fun t (w:(Gt H6 Int))=>each j8 g9 (List.drop t s.Covers) t w=some p) (fun t w=>[(3,.mp 1074),(55,E9 s.Covers),(56,Em s.Covers.length),(57,Em t)]) (fun t w=>[(1074,MP 138 H6.kv I64 w)]) (fun t=>s.Covers.length - t) 0 k h ⟨(.sm O O),⟨fmQ O,ø⟩,rfl⟩ ?_
   clear h
   intro t w b9 k9 j9
   refine Jr fun h1=>(JLh (BL (decide ((t:Int) < (s.Covers.length:Int)))) (Jf O O O) O (G6 (h1 (Js fun h2=>Gn O (fun hb=>?_) (fun hb=>?_)))))
   ·
    have c0:=Jn hb
    obtain⟨c,k4,h3,h4,h⟩:=Hs b9 c0
    replace h:=Rx h0 h
    refine Gp (h2 (Js fun h5=>Gk (Jr fun h6=>(JLh (.dptr [I64 c.Bay,E5 c.Rows]) (H4 (f:=Gs.av) (xs:=s.Covers) (y:=c) O O O G0f h3 O) O (JLh (.agg [I64 c.Bay,E5 c.Rows]) (Gg H5d O O O) O (JLh (.ptr 1073 0) (Hc 1073 2 Gf2 O O) O (Hb (u:=.junk) (H0 (u:=.agg [I64 c.Bay,E5 c.Rows]) (ds:=[I64 c.Bay,E5 c.Rows]) J52 O O O O O O O O) (G6 (h6 (fzQ [(3,.mp 1074),(8,.dptr [I64 c.Bay,E5 c.Rows]),(55,E9 s.Covers),(56,Em s.Covers.length),(57,Em t)] [(1074,MP 138 H6.kv I64 w)] 1073 rfl rfl rfl ⟨fmQ O,ø⟩ rfl (Js fun h7=>?_)))))))))))
    refine Jr fun h8=>(JLh (.dptr [I64 c.Bay,E5 c.Rows]) (Gc G9f O O O) O (JLh (I64 c.Bay) (Gf G9 O O O) O (JLh (BL (decide (c.Bay < 0))) (Jf O O O) O (JLm (BL (decide (c.Bay < 0))) O (JLo (.dptr [I64 c.Bay,E5 c.Rows]) [] O .scf ø (fun hc=>Gc G9f O O O) O (JLo (I64 c.Bay) [65] O .scf ⟨Ua,ø⟩ (fun hc=>Gf G9 O O O) O (JLo (BL (decide (40≤c.Bay))) [66] O .scf ⟨Ua,ø⟩ (fun hc=>Ge4 O O O) O (JLh (BL ((decide (c.Bay < 0))||(decide (40≤c.Bay)))) (G27 O O O O) O (JLm (BL ((decide (c.Bay < 0))||(decide (40≤c.Bay)))) O (JLo (.dptr [E5 c.Rows]) [] O .scf ø (fun hc=>Gc G9e O O O) O (JLo (E5 c.Rows) [70] O .scf ⟨Ua,ø⟩ (fun hc=>Gf Qt O O O) O (JLo (Em c.Rows.length) [71] O .scf ⟨Ua,ø⟩ (fun hc=>G32 (f:=I64) (xs:=c.Rows) H1 O O) O (JLo (BL (decide ((c.Rows.length:Int)=0))) [72] O .scf ⟨Ua,ø⟩ (fun hc=>Q6 O O O) O ?_)))))))))))))
    refine JLh (BL (((decide (c.Bay < 0))||(decide (40≤c.Bay)))||(decide ((c.Rows.length:Int)=0)))) (G27 O O O O) O (G6 (h8 (JCc O h (fun h hb=>?_) (fun h hb=>?_))))
    ·
     refine Jr fun h9=>(JLm (BL false) O (G6 (h9 (H2 (⟨[BL false],[],ø,O,⟨⟨_,O,.conv (.same O)⟩,ø⟩,O,false,Eq.mpr (Ky h) hp,O⟩)))))
    ·
     refine Gp (h7 (Jr fun i0=>(JLh (.dptr [E5 c.Rows]) (Gc G9e O O O) O (JLh (E5 c.Rows) (Gf Qt O O O) O (JLl H1 O O O fun i1=>(JLm (I64 0) O (G6 (i0 (Gk ?_)))))))))
     obtain⟨i2,c7,c8,c1,h⟩:=J5 h
     refine Hk (fun i (j:(Gt H6 Int))=>each i2 c7 (List.drop i c.Rows) i j=some p) (fun i j=>[(3,.mp 1074),(8,.dptr [I64 c.Bay,E5 c.Rows]),(55,E9 s.Covers),(56,Em s.Covers.length),(57,Em t),(76,E5 c.Rows),(77,Em c.Rows.length),(78,Em i)]) (fun i j=>[(1074,MP 138 H6.kv I64 j)]) (fun i=>c.Rows.length - i) 0 w h ⟨(.sm O O),⟨fmQ O,ø⟩,rfl⟩ ?_
     clear h
     intro i j a6 k5 i3
     refine Jr fun c9=>(JLh (BL (decide ((i:Int) < (c.Rows.length:Int)))) (Jf O O O) O (G6 (c9 (Js fun d0=>Gn O (fun hb=>?_) (fun hb=>?_)))))
     ·
      have a7:=Jn hb
      obtain⟨d,k0,d1,d2,h⟩:=Hs a6 a7
      replace h:=Rx c8 h
      refine Gp (d0 (Js fun d3=>Gk (Jr fun d4=>(JLm (Em i) O (JLh (.dptr [I64 d]) (H4 (f:=I64) (xs:=c.Rows) (y:=d) O O O H1 d1 O) O (JLh (I64 d) (Gf G9 O O O) O (JLm (Em i) O (JLm (I64 d) O (G6 (d4 (Js fun d5=>?_)))))))))))
      refine Jr fun d6=>(JLm (I64 d) O (JLh (BL (decide (d < 0))) (Jf O O O) O (JLm (BL (decide (d < 0))) O (JLo (I64 d) [] O .scf ø (fun hc=>G5 O O) O (JLo (BL (decide (30 < d))) [86] O .scf ⟨Ua,ø⟩ (fun hc=>G46 O O O) O (JLh (BL ((decide (d < 0))||(decide (30 < d)))) (G27 O O O O) O (JLm (BL ((decide (d < 0))||(decide (30 < d)))) O (JLo (Em i) [] O .scf ø (fun hc=>G5 O O) O (JLo (BL (decide (0 < (i:Int)))) [90] O .scf ⟨Ua,ø⟩ (fun hc=>G46 O O O) O (JLo (BL (decide (0 < (i:Int)))) [91] O .scf ⟨Ua,ø⟩ (fun hc=>G5 O O) O (JLo (I64 d) [] O .optt ø (fun hc=>G5 O O) O (JLo (.dptr [E5 c.Rows]) [] O .optt ø (fun hc=>Gc G9e O O O) O (JLo (E5 c.Rows) [94] O .optt ⟨Ua,ø⟩ (fun hc=>Gf Qt O O O) O ?_)))))))))))))
      refine JLo (Em i) [] O .optt ø (fun hc=>G5 O O) O ?_
      obtain⟨i4,d7,h⟩:=Gh h
      refine JLo (I64 i4) [96] O .optt ⟨Ua,ø⟩ (fun hc=>H35 (H97 (Hg hc d7)) O O O) O ?_
      obtain⟨a0,d8,h⟩:=Gh h
      refine JLo (.dptr [I64 a0]) [95,97] O .optt ⟨Ua,Ua,ø⟩ (fun hc=>(match G2d (Hg hc d8) with | ⟨_,hm_,hy_⟩=>H4 (f:=I64) (xs:=c.Rows) (y:=a0) O O O H1 hy_ hm_)) O (JLo (I64 a0) [98] O .optt ⟨Ua,ø⟩ (fun hc=>Gf G9 O O O) O (JLo (BL (decide (d≤a0))) [93,99] O .optt ⟨Ua,Ua,ø⟩ (fun hc=>H36 O O O) O (Ga (u:=BL ((decide (0 < (i:Int)))&&(decide (d≤a0)))) [(92,BL (decide (0 < (i:Int)))),(100,_)] O O O .scf ⟨.all id,.part,ø⟩ (fun hc=>Qr O O O O) ?_)))
      refine JLh (BL (((decide (d < 0))||(decide (30 < d)))||((decide (0 < (i:Int)))&&(decide (d≤a0))))) (G27 O O O O) O (G6 (d6 (JCc O h (fun h hb=>?_) (fun h hb=>?_))))
      ·
       refine Jr fun d9=>(JLm (BL false) O (G6 (d9 (H2 (⟨[BL false],[],ø,O,⟨⟨_,O,.conv (.same O)⟩,ø⟩,O,false,Eq.mpr (Ky h) hp,O⟩)))))
      ·
       refine Gp (d5 (Ye (l':=[(3,.mp 1074),(8,.dptr [I64 c.Bay,E5 c.Rows]),(10,I64 d),(55,E9 s.Covers),(56,Em s.Covers.length),(57,Em t),(76,E5 c.Rows),(77,Em c.Rows.length),(78,Em i)]) (L':=[(1074,MP 138 H6.kv I64 j)]) ⟨(.sm O O),⟨fmQ O,ø⟩,rfl⟩ ?_))
       obtain⟨i5,a8,h⟩:=Gh h
       obtain⟨a1,a9,h⟩:=J6 h
       refine R4 [7,9] [0,0,0,0,0,0,0,0,1,0] [0,0,0,0,0,1,1,0,1,0] [[(1074,MP 138 H6.kv I64 j)],((1074,MI 138 H6.kv I64 j (H6.mk c.Bay d 2) 0)::[(1074,MP 138 H6.kv I64 j)]),((1074,MP 138 H6.kv I64 (Gt.put j (H6.mk c.Bay d 2) a1))::((1074,MI 138 H6.kv I64 j (H6.mk c.Bay d 2) 0)::[(1074,MP 138 H6.kv I64 j)]))] Q3 (by kernel_rfl) rfl rfl ?_
       refine Gr (u:=.mp 1074) O O ⟨Gm (G5 O O) O,ø⟩ (Gr (u:=.dptr [I64 c.Bay,E5 c.Rows]) O O ⟨Gm (Gc G9f O O O) O,ø⟩ (Gr (u:=I64 c.Bay) O O ⟨Gm (Gf G9 O O O) O,ø⟩ (Gr (u:=I64 d) O O ⟨Gm (G5 O O) O,ø⟩ (Gr (u:=.agg [I64 c.Bay,I64 d,I64 2]) O O ⟨Gm (Hf8 (cs:=[I64 c.Bay,I64 d,I64 2]) [E0,E0,E0] Jb1 J4f O O) O,ø⟩ (Gr (u:=I64 i5) O O ⟨Gm (((Ky a8) ▸ H1e (av:=I64) (m:=j) (a:=(H6.mk c.Bay d 2)) 0 E0 O O O O J2a G86 H57 O)) O,Gm (((Ky a8) ▸ Jf6 (av:=I64) (m:=j) (a:=(H6.mk c.Bay d 2)) 0 E0 O O O O J2a G86 H57 O)) O,ø⟩ (Gr (u:=I64 a1) O O ⟨Gm (Hz a9 O O O) O,Gm (Hz a9 O O O) O,ø⟩ (D_w (u:=.tup [.junk,I64 (G13 (Gt.l j) (H6.mk c.Bay d 2):Int)]) O O O O (Gm (J76 (m:=j) (a:=(H6.mk c.Bay d 2)) 0 E0 O O O O J2a G86 H57 O) O) (Gr (u:=I64 (G13 (Gt.l j) (H6.mk c.Bay d 2):Int)) O O ⟨Gm (Gv O O O) O,ø⟩ (Ha7 (u:=.junk) O O O O (Gm (Hd4 (m:=j) (a:=(H6.mk c.Bay d 2)) (v:=a1) 0 O O O O O O) O) (Zg ?_))))))))))
       refine d3 (G2 (JLh (I64 ((i+1:Nat):Int)) (Hz (He a7 i1) O O O) O (JLm (I64 ((i+1:Nat):Int)) O (G6 (i3 _ _ (i+1) (Gt.put j (H6.mk c.Bay d 2) a1) (app1 d2 h) (by omega) ⟨(.sm O O),⟨fmQ O,ø⟩,rfl⟩)))))
     ·
      have h:=app1 c1 (Ht a6 (H9 hb))
      refine Hr (h5 (G2 (JLh (I64 ((t+1:Nat):Int)) (Hz (He c0 g8) O O O) O (JLm (I64 ((t+1:Nat):Int)) O (G6 (j9 _ _ (t+1) j (app1 h4 h) (by omega) ⟨(.sm O O),⟨fmQ O,ø⟩,rfl⟩))))))
   ·
    have h:=app1 c6 (Ht b9 (H9 hb))
    refine Hr (g6 (Js fun e0=>Jr fun e1=>(JLm (.mp 1074) O (JLh (.it 1075) (Jf5 1075 (m:=w) O O O O G86) O (G6 (e1 (Gk ?_)))))))
    obtain⟨i6,e2,e3,c2,h⟩:=Jd6 h
    refine Jee (Gt.size w) (fun x (a2:Unit)=>MInv i6 e2 (Gt.l w) x a2) (fun x a2=>[(115,.it 1075)]) (fun x a2=>[(1074,MP 138 H6.kv I64 w),(1075,.iter (.mp 1074) (Gt.size w) x)]) () (MInv.start h hp) ⟨⟨.same O,ø⟩,⟨⟨_,O,.map⟩,⟨_,O,.iter O⟩,ø⟩,O⟩ ?_
    clear h hp
    intro x a2 b0 k6 i7
    refine Jr fun b1=>H6b O O O (Q79 (m:=w) O O O O) ?_
    intro u_ L_ hn_
    rcases hn_ with ⟨c3,z,a3,b2,rfl,rfl⟩ | ⟨e4,rfl,rfl⟩
    ·
     obtain⟨k7,h,b3,b4⟩:=b0.step a3 b2
     replace h:=J3f e3 h
     refine JLh (BL true) (Gv O O O) O (G6 (b1 (Js fun e5=>Jef O (Gp (e5 (Gk (Jr fun e6=>(JLh (.tup [.agg (H6.cs z.1),I64 z.2]) (Jf9 (kv:=H6.kv) (av:=I64) (m:=w) (q:=c3) (seen:=x) (e:=z) O O O O a3) O (JLh (I64 z.2) (Gv O O O) O (JLm (I64 z.2) O (G6 (e6 (Jr fun e7=>(JLm (I64 z.2) O (JLh (BL (decide (1 < z.2))) (G46 O O O) O (G6 (e7 (JCc O h (fun h hb=>?_) (fun h hb=>?_)))))))))))))))))))
     ·
      refine Jr fun e8=>(JLm (BL false) O (G6 (e8 (H2 ?_))))
      obtain⟨y_,hy_,hl_⟩:=Y11 h
      exact⟨[BL false],[],ø,O,⟨⟨_,O,.conv (.same O)⟩,ø⟩,O,false,Eq.mpr (Ky hl_) (b3 y_ hy_),O⟩
     ·
      refine Gp (i7 _ _ (x++[c3]) () (b4 _ (Ky h).symm) (J29 (Kw a3).1 b2) ⟨⟨.same O,ø⟩,⟨⟨_,O,.map⟩,⟨_,O,.iter O⟩,ø⟩,O⟩)
    ·
     obtain⟨p_,h,hp⟩:=b0.done e4
     replace h:=app1 c2 h
     refine JLh (BL false) (Gv O O O) O (G6 (b1 (Js fun k1=>Jf0 O (Hr (e0 (Jr fun e9=>(JLm (BL true) O (G6 (e9 (H2 (⟨[BL true],[],ø,O,⟨⟨_,O,.conv (.same O)⟩,ø⟩,O,true,Eq.mpr (Ky h) hp,O⟩)))))))))))
theorem Jea (S_:(Gb)→Option Bool) (hS_:∀ s r,S_ s=some r→∃ p:Prop,Gb3 s (fun r_=>r_=r)=some p∧p) (s:Gb) (r:Bool) (h:S_ s=some r):Pure En 20 [.agg (Gb.cs s)] (·=BL r):=by
 obtain⟨p,a,b⟩:=hS_ s r h
 exact(Je9 s _ p a b).monoP (fun av hh=>by obtain⟨r_,rfl,ha⟩:=hh; exact ha)

def G24 (size:Int):Option (List Int):=
 bif decide (size=40) then
 (some [0])
 else
 (bif decide (size=20) then
  (some [1,2])
  else
  (some []))
theorem H74 (size:Int) (r:(List Int)) (h:G24 size=some r):Pure En 73 [U8 size] (·=Ee r):=by
 unfold G24 at h
 refine Ha [.tmp 2] Tryz.func73 O O (Jr fun a=>(JLh (Ee ([]:List Int)) (Qj 1 O O) O (G6 (a (Js fun b=>Jr fun c=>(JLm (U8 size) O (G6 (c (Gk (Jr fun d=>(JLh (BL (decide (size=40))) (Q6 O O O) O (JLm (BL (decide (size=40))) O (G6 (d (JCc O h (fun h hb=>?_) (fun h hb=>?_))))))))))))))))
 ·
  refine Jr fun e=>(JLh (Ee [0]) (H7 (xs:=[U8 0]) O ⟨O,O,ø⟩ Yv Hd5 O O O O) O (JLm (Ee [0]) O (G6 (e (H2 (fin1 (fun r:(List Int)=>(Ee r:AV)) h))))))
 ·
  refine Jr fun f=>(JLh (BL (decide (size=20))) (Q6 O O O) O (JLm (BL (decide (size=20))) O (G6 (f (JCc O h (fun h hb=>?_) (fun h hb=>?_))))))
  ·
   refine Jr fun g=>(JLh (Ee [1,2]) (H7 (xs:=[U8 1,U8 2]) O ⟨O,O,O,O,ø⟩ Yv Hd5 O O O O) O (JLm (Ee [1,2]) O (G6 (g (H2 (fin1 (fun r:(List Int)=>(Ee r:AV)) h))))))
  ·
   refine Gp (b (Jr fun i=>(JLh (Ee ([]:List Int)) (Qj 1 O O) O (G6 (i (H2 (fin1 (fun r:(List Int)=>(Ee r:AV)) h)))))))

def Gaf (j:Gb) (k:Int) (ys_:List Slot):Option Unit:=
 each (fun e l (b:Nat) f=>
  need (decide ((max e.Tiers 0)≤9223372036854775807)) <|
  upto (fun m (c:Nat) g=>
   bnd (G24 k) fun h=>
   each (fun i n (a:Nat) d=>
    need (decide (ys_[a]? = some (Slot.mk (l:Int) (m:Int) i))) <|
    d (a+1))
   (fun(a:Nat)=>
    g a) h 0 c)
  (fun(c:Nat)=>
   f c) (max e.Tiers 0).toNat 0 b)
 (fun(b:Nat)=>
  need (decide (b=ys_.length)) (some ())) j.Columns 0 0
theorem J44 (e:Gb) (m:Int) (ys_:List Slot) (q_:Unit) (h:Gaf e m ys_=some q_):Iter En 72 [.dptr (Gb.cs e),.dptr [U8 m]] (ys_.map (fun y:Slot=>[.agg [I64 y.G4,I64 y.Tier,U8 y.Half]])):=by
 unfold Gaf at h
 refine R6d Tryz.func72 O O ?_
 intro E hE hys
 refine Qg (fun K1 b9=>Jp (Hx (u:=Ef e) hE (Gc Hm O O O) ?_ O O O O))
 refine Hx (u:=E7 e.Columns) hE (Gf J3 O O O) ?_ O O O O
 refine H51 hE (f:=G4.av) (xs:=e.Columns) Ho O O (fun w=>?_) O O O
 refine Hx (u:=I64 0) hE (G5 O O) ?_ O O O O
 refine Qe ?_
 refine b9 _ _ _ (G1b ?_)
 obtain⟨b2,c0,c1,z,h⟩:=J5 h
 refine H50 (fun a (n:Nat)=>each b2 c0 (List.drop a e.Columns) a n=some q_) (fun a n=>[(0,.sc (.func (.yield E.lp) #[] #[])),(2,.dptr [U8 m]),(10,E7 e.Columns),(11,Em e.Columns.length),(12,Em a)]) (fun a n=>[]) (fun a n=>n) (fun a=>e.Columns.length - a) 0 0 h ⟨(.sm O O),ø,rfl⟩ rfl ?_
 clear h
 intro a n r K2 e2
 refine Qg (fun K3 c2=>Jp (Hx (u:=BL (decide ((a:Int) < (e.Columns.length:Int)))) hE (Jf O O O) ?_ O O O O))
 refine Qe ?_
 refine c2 _ _ _ (Qg (fun K4 c3=>Gd4 O (fun hb=>?_) (fun hb=>?_)))
 ·
  have s:=Jn hb
  obtain⟨g,e1,c4,c5,h⟩:=Hs r s
  replace h:=Rx c1 h
  refine Gb5 (c3 _ _ _ (Qg (fun K5 c6=>G1b (Qg (fun K6 c7=>Jp (Hx (u:=Em a) hE (G5 O O) ?_ O O O O))))))
  refine Hx (u:=Ei g) hE (H4 (f:=G4.av) (xs:=e.Columns) (y:=g) O O O Ho c4 O) ?_ O O O O
  refine Hx (u:=.agg (G4.cs g)) hE (Gg G65 O O O) ?_ O O O O
  refine Hx (u:=.ptr 1162 0) hE (Hc 1162 12 Yu O O) ?_ O O O O
  refine Hx (u:=Em a) hE (G7 O O) ?_ O O O O
  refine Q74 (u:=.junk) hE (H0 (u:=.agg (G4.cs g)) (ds:=(G4.cs g)) Gbe O O O O O O O O) ?_ O O O
  refine Qe ?_
  refine c7 _ _ _ (Qg (fun K7 c8=>Jp (Hx (u:=.ptr 1162 3) hE (J7 Yi O O) ?_ O O O O)))
  refine Hx (u:=I64 g.Tiers) hE (Jm G9 O O O O) ?_ O O O O
  refine Hx (u:=I64 (max g.Tiers 0)) hE (R74 O O O) ?_ O O O O
  refine Hx (u:=I64 0) hE (G5 O O) ?_ O O O O
  refine Qe ?_
  refine c8 _ _ _ (G1b ?_)
  obtain⟨c9,h⟩:=J9 h
  obtain⟨b8,d0,d1,a0,h⟩:=Gcc h
  refine H50 (fun c (l:Nat)=>upto b8 d0 ((max g.Tiers 0).toNat - c) c l=some q_) (fun c l=>[(0,.sc (.func (.yield E.lp) #[] #[])),(2,.dptr [U8 m]),(4,Em a),(10,E7 e.Columns),(11,Em e.Columns.length),(12,Em a),(19,I64 (max g.Tiers 0)),(20,Em c)]) (fun c l=>[(1162,.box 41 (G4.cs g))]) (fun c l=>l) (fun c=>(max g.Tiers 0).toNat - c) 0 n h ⟨(.sm O O),⟨fbQ O (.sm O O),ø⟩,rfl⟩ rfl ?_
  clear h
  intro c l t K8 e8
  refine Qg (fun K9 d2=>Jp (Hx (u:=BL (decide ((c:Int) < (max g.Tiers 0)))) hE (Jf O O O) ?_ O O O O))
  refine Qe ?_
  refine d2 _ _ _ (Qg (fun e3 a1=>Gd4 O (fun hb=>?_) (fun hb=>?_)))
  ·
   have v:=G76 hb
   obtain⟨e4,d3,h⟩:=G70 t v
   replace h:=J3f d1 h
   refine Gb5 (a1 _ _ _ (Qg (fun e5 a2=>G1b (Qg (fun e6 a3=>Jp (Hx (u:=Em c) hE (G5 O O) ?_ O O O O))))))
   refine Hx (u:=Em c) hE (G7 O O) ?_ O O O O
   refine Qe ?_
   refine a3 _ _ _ (Qg (fun e7 a4=>Jp (Hx (u:=U8 m) hE (Gf Jc O O O) ?_ O O O O)))
   obtain⟨i,a5,h⟩:=Gh h
   refine Hx (u:=Ee i) hE (H3 O (H74 m i a5) Ja4 ⟨O,O,ø⟩) ?_ O O O O
   refine H51 hE (f:=U8) (xs:=i) Yv O O (fun a6=>?_) O O O
   refine Hx (u:=I64 0) hE (G5 O O) ?_ O O O O
   refine Qe ?_
   refine a4 _ _ _ (G1b ?_)
   obtain⟨d4,a7,a8,q,h⟩:=J5 h
   refine H50 (fun d (k:Nat)=>each d4 a7 (List.drop d i) d k=some q_) (fun d k=>[(0,.sc (.func (.yield E.lp) #[] #[])),(2,.dptr [U8 m]),(4,Em a),(6,Em c),(10,E7 e.Columns),(11,Em e.Columns.length),(12,Em a),(19,I64 (max g.Tiers 0)),(20,Em c),(24,Ee i),(25,Em i.length),(26,Em d)]) (fun d k=>[(1162,.box 41 (G4.cs g))]) (fun d k=>k) (fun d=>i.length - d) 0 l h ⟨(.sm O O),⟨fbQ O (.sm O O),ø⟩,rfl⟩ rfl ?_
   clear h
   intro d k o e9 d5
   refine Qg (fun f0 a9=>Jp (Hx (u:=BL (decide ((d:Int) < (i.length:Int)))) hE (Jf O O O) ?_ O O O O))
   refine Qe ?_
   refine a9 _ _ _ (Qg (fun f1 b0=>Gd4 O (fun hb=>?_) (fun hb=>?_)))
   ·
    have p:=Jn hb
    obtain⟨j,e0,b1,b3,h⟩:=Hs o p
    replace h:=Rx a8 h
    refine Gb5 (b0 _ _ _ (Qg (fun f2 b4=>G1b (Qg (fun f3 b5=>Jp (Hx (u:=.dptr [U8 j]) hE (H4 (f:=U8) (xs:=i) (y:=j) O O O Yv b1 O) ?_ O O O O))))))
    refine Hx (u:=U8 j) hE (Gf Jc O O O) ?_ O O O O
    refine Hx (u:=U8 j) hE (G7 O O) ?_ O O O O
    refine Qe ?_
    refine b5 _ _ _ (Qg (fun f4 b6=>Jp (Hx (u:=.sc (.func (.yield E.lp) #[] #[])) hE (G5 O O) ?_ O O O O)))
    refine Hx (u:=Em a) hE (G5 O O) ?_ O O O O
    refine Hx (u:=Em c) hE (G5 O O) ?_ O O O O
    refine Hx (u:=U8 j) hE (G5 O O) ?_ O O O O
    refine Hx (u:=.agg [Em a,Em c,U8 j]) hE (Ja (cs:=[Em a,Em c,U8 j]) [(0,1),(1,1),(2,1)] [I64 0,I64 0,U8 0] [E0,E0,.int .u8 0] G9d Gbc (zzQ O) O O) ?_ O O O O
    obtain⟨b7,h⟩:=J9 h
    refine Q42 (us:=[.agg [Em a,Em c,U8 j]]) hE O O ⟨.inl O,O,ø⟩ (J8e (f:=(fun y:Slot=>[.agg [I64 y.G4,I64 y.Tier,U8 y.Half]])) (x:=(Slot.mk (a:Int) (c:Int) j)) hys b7) ?_ O O O
    refine Hx (u:=BL false) hE (G1f (b:=true) O O) ?_ O O O O
    refine Qe ?_
    refine b6 _ _ _ (Jed O (Gb5 (b4 _ _ _ (Jp (Hx (u:=I64 ((d+1:Nat):Int)) hE (Hz (He p a6) O O O) ?_ O O O O)))))
    refine Hx (u:=I64 ((d+1:Nat):Int)) hE (G5 O O) ?_ O O O O
    refine Qe ?_
    exact d5 _ _ (d+1) (k+1) _ (app1 b3 h) (by omega) ⟨(.sm O O),⟨fbQ O (.sm O O),ø⟩,rfl⟩ rfl
   ·
    have h:=app1 q (Ht o (H9 hb))
    refine H6c (a2 _ _ _ (Jp (Hx (u:=I64 ((c+1:Nat):Int)) hE (Hz (He v (G0c c9)) O O O) ?_ O O O O)))
    refine Hx (u:=I64 ((c+1:Nat):Int)) hE (G5 O O) ?_ O O O O
    refine Qe ?_
    exact e8 _ _ (c+1) k _ (app1 d3 h) (by omega) ⟨(.sm O O),⟨fbQ O (.sm O O),ø⟩,rfl⟩ rfl
  ·
   have h:=app1 a0 (G71 t (Z8 hb))
   refine H6c (c6 _ _ _ (Jp (Hx (u:=I64 ((a+1:Nat):Int)) hE (Hz (He s w) O O O) ?_ O O O O)))
   refine Hx (u:=I64 ((a+1:Nat):Int)) hE (G5 O O) ?_ O O O O
   refine Qe ?_
   exact e2 _ _ (a+1) l _ (app1 c5 h) (by omega) ⟨(.sm O O),ø,rfl⟩ rfl
 ·
  have h:=app1 z (Ht r (H9 hb))
  refine H6c (J83 (J9 h).1)
theorem J45 (S_:(Gb)→(Int)→Option (List Slot)) (hS_:∀ a b r,S_ a b=some r→Gaf a b r=some ()) (a:Gb) (b:Int) (r:List Slot) (h:S_ a b=some r):Iter En 72 [.dptr (Gb.cs a),.dptr [U8 b]] (r.map (fun y:Slot=>[.agg [I64 y.G4,I64 y.Tier,U8 y.Half]])):=J44 a b r () (hS_ a b r h)

def G0d (x:Int):Option Bool:=
 some (decide (x≠x))
theorem H32 (x:Int) (r:Bool) (h:G0d x=some r):Pure En 79 [I64 x] (·=BL r):=by
 unfold G0d at h
 refine Ha [.tmp 2] Tryz.func79 O O (Jr fun a=>(JLm (BL false) O (G6 (a (Jr fun b=>(JLm (I64 x) O (JLm (I64 x) O (JLh (BL (decide (x≠x))) (Gf1 O O O) O (JLm (BL (decide (x≠x))) O (G6 (b (H2 (fin1 BL h)))))))))))))

def R3 (x:Int) (y:Int):Option Int:=
 bnd (G0d x) fun b=>
 bnd (G0d y) fun a=>
 bif b then
 (bif a then
  (some 0)
  else
  (some (-1)))
 else
 (bif a then
  (some 1)
  else
  (bif decide (x < y) then
   (some (-1))
   else
   (bif decide (y < x) then
    (some 1)
    else
    (some 0))))
theorem Zr (x:Int) (y:Int) (r:Int) (h:R3 x y=some r):Pure En 43 [I64 x,I64 y] (·=I64 r):=by
 unfold R3 at h
 refine Ha [.tmp 4] Tryz.func43 O O (Jr fun p=>(JLm (I64 0) O (G6 (p (Jr fun q=>(JLm (I64 x) O ?_))))))
 obtain⟨b,s,h⟩:=Gh h
 refine JLh (BL b) (H3 O (H32 x b s) Ja1 ⟨O,O,ø⟩) O (JLm (BL b) O (G6 (q (Jr fun t=>(JLm (I64 y) O ?_)))))
 obtain⟨a,u,h⟩:=Gh h
 refine JLh (BL a) (H3 O (H32 y a u) Ja1 ⟨O,O,ø⟩) O (JLm (BL a) O (G6 (t (Js fun v=>Jr fun w=>(JLm (BL b) O (G6 (w (JCc O h (fun h hb=>?_) (fun h hb=>?_)))))))))
 ·
  refine Js fun z=>Jr fun a0=>(JLm (BL a) O (G6 (a0 (JCc O h (fun h hb=>?_) (fun h hb=>?_)))))
  ·
   refine Jr fun c=>(JLm (I64 0) O (G6 (c (H2 (fin1 I64 h)))))
  ·
   refine Gp (z (Jr fun d=>(JLm (I64 (-1)) O (G6 (d (H2 (fin1 I64 h)))))))
 ·
  refine Gp (v (Js fun e=>Jr fun f=>(JLm (BL a) O (G6 (f (JCc O h (fun h hb=>?_) (fun h hb=>?_)))))))
  ·
   refine Jr fun g=>(JLm (I64 1) O (G6 (g (H2 (fin1 I64 h)))))
  ·
   refine Gp (e (Js fun i=>Jr fun j=>(JLm (I64 x) O (JLm (I64 y) O (JLh (BL (decide (x < y))) (Jf O O O) O (G6 (j (JCc O h (fun h hb=>?_) (fun h hb=>?_)))))))))
   ·
    refine Jr fun k=>(JLm (I64 (-1)) O (G6 (k (H2 (fin1 I64 h)))))
   ·
    refine Gp (i (Js fun l=>Jr fun m=>(JLm (I64 x) O (JLm (I64 y) O (JLh (BL (decide (y < x))) (G46 O O O) O (G6 (m (JCc O h (fun h hb=>?_) (fun h hb=>?_)))))))))
    ·
     refine Jr fun n=>(JLm (I64 1) O (G6 (n (H2 (fin1 I64 h)))))
    ·
     refine Gp (l (Jr fun o=>(JLm (I64 0) O (G6 (o (H2 (fin1 I64 h)))))))

def G6a (vals:List Int):Option Int:=
 each (fun a d (c:Unit) b=>
  bif decide (a≠0) then
  (some a)
  else
  (b ()))
 (fun(c:Unit)=>
  some 0) vals 0 ()
theorem Ha4 (vals:List Int) (r:Int) (h:G6a vals=some r):Pure En 42 [E5 vals] (·=I64 r):=by
 unfold G6a at h
 refine Ha [.tmp 2] Tryz.func42 O O (Jr fun u=>(JLm (I64 0) O (G6 (u (Jr fun v=>(JLm (I64 0) O (G6 (v (Js fun w=>Jr fun x=>(JLm (E5 vals) O (JLl H1 O O O fun z=>(JLm (I64 0) O (G6 (x (Gk ?_)))))))))))))))
 obtain⟨a0,i,j,g,h⟩:=J5 h
 refine Hk (fun a (c:Unit)=>each a0 i (List.drop a vals) a c=some r) (fun a c=>[(3,I64 0),(6,E5 vals),(7,Em vals.length),(8,Em a)]) (fun a c=>[]) (fun a=>vals.length - a) 0 () h ⟨(.sm O O),ø,rfl⟩ ?_
 clear h
 intro a c d a3 a1
 refine Jr fun k=>(JLh (BL (decide ((a:Int) < (vals.length:Int)))) (Jf O O O) O (G6 (k (Js fun l=>Gn O (fun hb=>?_) (fun hb=>?_)))))
 ·
  have e:=Jn hb
  obtain⟨b,a2,m,n,h⟩:=Hs d e
  replace h:=Rx j h
  refine Gp (l (Js fun o=>Gk (Jr fun p=>(JLh (.dptr [I64 b]) (H4 (f:=I64) (xs:=vals) (y:=b) O O O H1 m O) O (JLh (I64 b) (Gf G9 O O O) O (JLm (I64 b) O (G6 (p (Jr fun q=>(JLm (I64 b) O (JLm (I64 0) O (JLh (BL (decide (b≠0))) (Gf1 O O O) O (G6 (q (JCc O h (fun h hb=>?_) (fun h hb=>?_))))))))))))))))
  ·
   refine Jr fun s=>(JLm (I64 b) O (JLm (I64 b) O (G6 (s (H2 (fin1 I64 h))))))
  ·
   refine Gp (o (G2 (JLh (I64 ((a+1:Nat):Int)) (Hz (He e z) O O O) O (JLm (I64 ((a+1:Nat):Int)) O (G6 (a1 _ _ (a+1) () (app1 n h) (by omega) ⟨(.sm O O),ø,rfl⟩))))))
 ·
  have h:=app1 g (Ht d (H9 hb))
  refine Hr (w (Jr fun t=>(JLm (I64 0) O (JLm (I64 0) O (G6 (t (H2 (fin1 I64 h))))))))

end
end Go.Proofs.YtibhpogonkdiaaaGreat
