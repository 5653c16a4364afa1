/- Walks of functions. -/
import Derived.Test.YtibhpogonkdiaaaGreatSortLay
import Derived.Test.YtibhpogonkdiaaaGreatIterJ
import Derived.Test.YtibhpogonkdiaaaGreatRangeI
import Derived.Test.YtibhpogonkdiaaaGreatGiv
import Derived.Test.YtibhpogonkdiaaaGreatIterJ
import Derived.Test.YtibhpogonkdiaaaGreatGiv
set_option linter.unnecessarySimpa false
set_option maxRecDepth 100000
set_option maxHeartbeats 1000000
set_option linter.unusedVariables false
set_option linter.unusedSimpArgs false
namespace Go.Proofs.YtibhpogonkdiaaaGreat
open Go.RowKit
noncomputable section
abbrev Em:=Tryz.prog
structure Hf where
 n:Int
 low:Int
 high:Int
 deriving DecidableEq,Inhabited
def Hf.cs (x:Hf):List AV:=[I64 x.n,I64 x.low,I64 x.high]
def Hf.av (x:Hf):AV:=.agg x.cs
structure G5 where
 Bay:Int
 Row:Int
 Deck:Bool
 Tiers:Int
 Height:Int
 Kilos20:Int
 Kilos40:Int
 Lash:Int
 Plugs:List Int
 X:Int
 Y:Int
 Z:Int
 deriving DecidableEq,Inhabited
def G5.cs (x:G5):List AV:=[I64 x.Bay,I64 x.Row,BL x.Deck,I64 x.Tiers,I64 x.Height,I64 x.Kilos20,I64 x.Kilos40,I64 x.Lash,E5 x.Plugs,I64 x.X,I64 x.Y,I64 x.Z]
def G5.av (x:G5):AV:=.agg x.cs
abbrev Eh (x:G5):AV:=.dptr (G5.cs x)
abbrev Ea:=LS 12 G5.av
structure Gt where
 Bay:Int
 Rows:List Int
 deriving DecidableEq,Inhabited
def Gt.cs (x:Gt):List AV:=[I64 x.Bay,E5 x.Rows]
def Gt.av (x:Gt):AV:=.agg x.cs
abbrev Eb:=LS 2 Gt.av
structure Light where
 Kilos:Int
 X:Int
 Y:Int
 Z:Int
 deriving DecidableEq,Inhabited
def Light.cs (x:Light):List AV:=[I64 x.Kilos,I64 x.X,I64 x.Y,I64 x.Z]
def Light.av (x:Light):AV:=.agg x.cs
structure Row where
 Draught:Int
 Kilos:Int
 Buoy:Int
 Metacentre:Int
 Qe6:Int
 deriving DecidableEq,Inhabited
def Row.cs (x:Row):List AV:=[I64 x.Draught,I64 x.Kilos,I64 x.Buoy,I64 x.Metacentre,I64 x.Qe6]
def Row.av (x:Row):AV:=.agg x.cs
abbrev E7:=LS 5 Row.av
structure Frame where
 X:Int
 Light:Int
 Share:Int
 Shear:Int
 Bend:Int
 deriving DecidableEq,Inhabited
def Frame.cs (x:Frame):List AV:=[I64 x.X,I64 x.Light,I64 x.Share,I64 x.Shear,I64 x.Bend]
def Frame.av (x:Frame):AV:=.agg x.cs
abbrev E8:=LS 5 Frame.av
structure Hw where
 Kilos:Int
 X:Int
 Y:Int
 Z:Int
 Surface:Int
 Steps:List Int
 deriving DecidableEq,Inhabited
def Hw.cs (x:Hw):List AV:=[I64 x.Kilos,I64 x.X,I64 x.Y,I64 x.Z,I64 x.Surface,E5 x.Steps]
def Hw.av (x:Hw):AV:=.agg x.cs
abbrev E9:=LS 6 Hw.av
structure Gg where
 Tolerance:Int
 Trim:Int
 List_:Int
 Stability:Int
 deriving DecidableEq,Inhabited
def Gg.cs (x:Gg):List AV:=[I64 x.Tolerance,I64 x.Trim,I64 x.List_,I64 x.Stability]
def Gg.av (x:Gg):AV:=.agg x.cs
structure Ge where
 Columns:List G5
 Covers:List Gt
 Light:Light
 Rows:List Row
 Frames:List Frame
 Tanks:List Hw
 Gg:Gg
 deriving DecidableEq,Inhabited
def Ge.cs (x:Ge):List AV:=[Ea x.Columns,Eb x.Covers,I64 x.Light.Kilos,I64 x.Light.X,I64 x.Light.Y,I64 x.Light.Z,E7 x.Rows,E8 x.Frames,E9 x.Tanks,I64 x.Gg.Tolerance,I64 x.Gg.Trim,I64 x.Gg.List_,I64 x.Gg.Stability]
def Ge.av (x:Ge):AV:=.agg x.cs
abbrev Ef (x:Ge):AV:=.dptr (Ge.cs x)
structure H4 where
 e0:Int
 e1:Int
 e2:Int
 deriving DecidableEq,Inhabited
def H4.cs (x:H4):List AV:=[I64 x.e0,I64 x.e1,I64 x.e2]
def H4.av (x:H4):AV:=.agg x.cs
def H4.ks (x:H4):List Value:=[.int .i64 x.e0,.int .i64 x.e1,.int .i64 x.e2]
def H4.kv (x:H4):Value:=.agg x.ks.toArray
structure Slot where
 G5:Int
 Tier:Int
 Half:Int
 deriving DecidableEq,Inhabited
def Slot.cs (x:Slot):List AV:=[I64 x.G5,I64 x.Tier,U8 x.Half]
def Slot.av (x:Slot):AV:=.agg x.cs
abbrev Ej (x:Slot):AV:=.dptr (Slot.cs x)
abbrev Ec:=LS 3 Slot.av
structure G1 where
 Box:Int
 Slot:Slot
 deriving DecidableEq,Inhabited
def G1.cs (x:G1):List AV:=[I64 x.Box,I64 x.Slot.G5,I64 x.Slot.Tier,U8 x.Slot.Half]
def G1.av (x:G1):AV:=.agg x.cs
abbrev Eg (x:G1):AV:=.dptr (G1.cs x)
abbrev E4:=LS 4 G1.av
structure G4f where
 States:List (List G1)
 Water:List (List Int)
 deriving DecidableEq,Inhabited
def G4f.cs (x:G4f):List AV:=[LS 1 (E4) x.States,LS 1 (E5) x.Water]
def G4f.av (x:G4f):AV:=.agg x.cs
structure H1 where
 Load:Int
 Discharge:Int
 deriving DecidableEq,Inhabited
def H1.cs (x:H1):List AV:=[I64 x.Load,I64 x.Discharge]
def H1.av (x:H1):AV:=.agg x.cs
structure G8 where
 H1:H1
 Whole:Int
 Half:Int
 deriving DecidableEq,Inhabited
def G8.cs (x:G8):List AV:=[I64 x.H1.Load,I64 x.H1.Discharge,I64 x.Whole,I64 x.Half]
def G8.av (x:G8):AV:=.agg x.cs
structure Box where
 ID:Int
 Number:ByteArray
 Size:Int
 High:Bool
 Kilos:Int
 Load:Int
 Discharge:Int
 Class:Int
 Reefer:Bool
 deriving DecidableEq,Inhabited
def Box.cs (x:Box):List AV:=[I64 x.ID,ST x.Number,U8 x.Size,BL x.High,I64 x.Kilos,I64 x.Load,I64 x.Discharge,U8 x.Class,BL x.Reefer]
def Box.av (x:Box):AV:=.agg x.cs
abbrev Ei (x:Box):AV:=.dptr (Box.cs x)
abbrev E6:=LS 9 Box.av
def H1.ks (x:H1):List Value:=[.int .i64 x.Load,.int .i64 x.Discharge]
def G8.vs (x:G8):List Value:=[.int .i64 x.H1.Load,.int .i64 x.H1.Discharge,.int .i64 x.Whole,.int .i64 x.Half]
namespace XAF
theorem Re6 (a b:H4):H65 Em 4 139 [.int .i64 a.e0,.int .i64 a.e1,.int .i64 a.e2] [.int .i64 b.e0,.int .i64 b.e1,.int .i64 b.e2]=some (decide (a=b)):=by
 refine(show _=some ((a.e0==b.e0)&&((a.e1==b.e1)&&((a.e2==b.e2)&&true))) by kernel_rfl).trans (congrArg some ?_)
 rw [Bool.eq_iff_iff]
 simp only [Mc,beq_iff_eq,Md,Bool.and_true]
 constructor
 ·intro h; obtain⟨_,_,_⟩:=a; obtain⟨_,_,_⟩:=b; simp_all
 ·intro h; subst h; simp
theorem H34:G8f Em 137 2=true:=by kernel_rfl
theorem Qc0:G8f Em 185 3=true:=by kernel_rfl
theorem Yu:G8f Em 37 9=true:=by kernel_rfl
theorem G44:G8f Em 41 12=true:=by kernel_rfl
theorem J71:Rb3 Em 139 3 1=true:=by kernel_rfl
theorem J6a:He Em 42=true:=by kernel_rfl
theorem Ge0:He Em 43=true:=by kernel_rfl
theorem Qae:He Em 56=true:=by kernel_rfl
theorem J65:He Em 73=true:=by kernel_rfl
theorem J62:He Em 79=true:=by kernel_rfl
theorem J5e:He Em 97=true:=by kernel_rfl
theorem G77:Jn Em 137 0 0=true:=by kernel_rfl
theorem G76:Jn Em 137 1 1=true:=by kernel_rfl
theorem H54:Jn Em 185 0 0=true:=by kernel_rfl
theorem J57:Jn Em 185 1 1=true:=by kernel_rfl
theorem J56:Jn Em 185 2 2=true:=by kernel_rfl
theorem Hk:Jn Em 34 0 0=true:=by kernel_rfl
theorem G0a:Jn Em 34 1 1=true:=by kernel_rfl
theorem Yk:Jn Em 37 2 2=true:=by kernel_rfl
theorem Yj:Jn Em 37 5 5=true:=by kernel_rfl
theorem Zb:Jn Em 37 6 6=true:=by kernel_rfl
theorem G2c:Jn Em 41 0 0=true:=by kernel_rfl
theorem G2b:Jn Em 41 1 1=true:=by kernel_rfl
theorem H53:Jn Em 41 10 10=true:=by kernel_rfl
theorem Gdd:Jn Em 41 11 11=true:=by kernel_rfl
theorem G2a:Jn Em 41 2 2=true:=by kernel_rfl
theorem Y0:Jn Em 41 3 3=true:=by kernel_rfl
theorem H97:Jn Em 41 4 4=true:=by kernel_rfl
theorem Jb9:Jn Em 41 5 5=true:=by kernel_rfl
theorem Jb8:Jn Em 41 6 6=true:=by kernel_rfl
theorem Jb7:Jn Em 41 7 7=true:=by kernel_rfl
theorem H96:Jn Em 41 8 8=true:=by kernel_rfl
theorem H95:Jn Em 41 9 9=true:=by kernel_rfl
theorem Yi:Jn Em 48 0 0=true:=by kernel_rfl
theorem G61:G01 Em 138 139 3=true:=by kernel_rfl
theorem Q0:Em.follows .mixedOrders=true:=by kernel_rfl
theorem Rg:placesOf Em 185=some [(0,1),(1,1),(2,1)]:=by kernel_rfl
theorem G74:placesOf Em 63=some [(0,1),(1,1),(2,1)]:=by kernel_rfl
theorem J2:Qx Em 24=true:=by kernel_rfl
theorem G73:Qx Em 25=true:=by kernel_rfl
theorem G9:Qx Em 3=true:=by kernel_rfl
theorem Qi:Qx Em 39=true:=by kernel_rfl
theorem Rs:Qx Em 4=true:=by kernel_rfl
theorem Jy:Qx Em 42=true:=by kernel_rfl
theorem J9:Qx Em 5=true:=by kernel_rfl
theorem Y1:Qx Em 59=true:=by kernel_rfl
theorem J14:R2 Em 137 2=true:=by kernel_rfl
theorem Q38:R2 Em 185 3=true:=by kernel_rfl
theorem Zf:R2 Em 3 1=true:=by kernel_rfl
theorem Yd:R2 Em 37 9=true:=by kernel_rfl
theorem G96:R2 Em 41 12=true:=by kernel_rfl
theorem Gca:sliceB Em 183 185 3=true:=by kernel_rfl
theorem Hj:sliceB Em 24 41 12=true:=by kernel_rfl
theorem Zw:sliceB Em 25 137 2=true:=by kernel_rfl
theorem Hx:sliceB Em 38 37 9=true:=by kernel_rfl
theorem Gx:sliceB Em 39 3 1=true:=by kernel_rfl
theorem Hz:sliceB Em 42 59 1=true:=by kernel_rfl
theorem Zv:sliceB Em 54 5 1=true:=by kernel_rfl
theorem J11:(Em.info? 139).bind (fun i=>i.zero.map Value.cells)=some (List.toArray [E0,E0,E0]):=by kernel_rfl
theorem Yr:(Em.info? 185).bind (fun i=>i.zero.map Value.cells)=some (List.toArray [E0,E0,E0]):=by kernel_rfl
theorem G94:(Em.info? 63).bind (fun i=>i.zero.map Value.cells)=some (List.toArray [E0,E0,.int .u8 0]):=by kernel_rfl
theorem Gc9:Qf Em 137 2=true:=by kernel_rfl
theorem H2d:Qf Em 185 3=true:=by kernel_rfl
theorem R0:Qf Em 3 1=true:=by kernel_rfl
theorem Qr:Qf Em 37 9=true:=by kernel_rfl
theorem Yq:Qf Em 41 12=true:=by kernel_rfl
theorem J52:Qf Em 5 1=true:=by kernel_rfl
theorem H2c:(Em.info? 3).bind (·.zero)=some E0:=by kernel_rfl
theorem Hf0:Gbe Em 139 H4.kv:=Gbe.of_eq H4.ks (by kernel_rfl) (fun a b h=>by simp only [H4.ks,List.cons.injEq,Value.int.injEq,Value.bool.injEq,Value.string.injEq,true_and,and_true] at h; obtain⟨_,_,_⟩:=a; obtain⟨_,_,_⟩:=b; simp_all) 4 (by decide) (fun a b=>Re6 a b) (fun a=>by kernel_rfl) (fun a=>by simp [Instr.sameBits,H4.ks])
end XAF
open XAF

def G17 (l:List Hf):Option Bool:=
 each (fun a d (c:Unit) b=>
  bif ((decide (a.n < a.low))||(decide (a.high < a.n))) then
  (some false)
  else
  (b ()))
 (fun(c:Unit)=>
  some true) l 0 ()
theorem H23 (l:List Hf) (r:Bool) (h:G17 l=some r):Pure Em 97 [LS 3 Hf.av l] (·=BL r):=by
 unfold G17 at h
 refine H7 [.tmp 2] Tryz.func97 O O (Jr fun x=>(JLm (BL false) O (G6 (x (Js fun z=>Jr fun a0=>(JLm (LS 3 Hf.av l) O (JLl Gca O O O fun a1=>(JLm (I64 0) O (G6 (a0 (Gk ?_)))))))))))
 obtain⟨a2,i,j,g,h⟩:=J3 h
 refine Hi (fun b (c:Unit)=>each a2 i (List.drop b l) b c=some r) (fun b c=>[(5,LS 3 Hf.av l),(6,Ek l.length),(7,Ek b)]) (fun b c=>[]) (fun b=>l.length - b) 0 () h ⟨(.sm O O),ø,O⟩ ?_
 clear h
 intro b c d a5 a3
 refine Jr fun k=>(JLh (BL (decide ((b:Int) < (l.length:Int)))) (Jc O O O) O (G6 (k (Js fun m=>Gn O (fun hb=>?_) (fun hb=>?_)))))
 ·
  have e:=Jk hb
  obtain⟨a,a4,o,p,h⟩:=Hr d e
  replace h:=Ry j h
  refine Gp (m (Js fun q=>Gk (Jr fun s=>(JLh (.dptr [I64 a.n,I64 a.low,I64 a.high]) (H3 (f:=Hf.av) (xs:=l) (y:=a) O O O Gca o O) O (JLh (.agg [I64 a.n,I64 a.low,I64 a.high]) (Gi Qc0 O O O) O (JLh (.ptr 1165 0) (Hd 1165 3 H2d O O) O (Hb (u:=.junk) (Gz (u:=.agg [I64 a.n,I64 a.low,I64 a.high]) (ds:=[I64 a.n,I64 a.low,I64 a.high]) Q38 O O O O O O O O) (G6 (s (fzQ [(4,.dptr [I64 a.n,I64 a.low,I64 a.high]),(5,LS 3 Hf.av l),(6,Ek l.length),(7,Ek b)] [] 1165 rfl rfl rfl ø rfl ?_))))))))))
  refine Jr fun t=>(JLh (.dptr [I64 a.n,I64 a.low,I64 a.high]) (Gd H54 O O O) O (JLh (I64 a.n) (Gf G9 O O O) O (JLh (.dptr [I64 a.low,I64 a.high]) (Gd J57 O O O) O (JLh (I64 a.low) (Gf G9 O O O) O (JLh (BL (decide (a.n < a.low))) (Jc O O O) O (JLm (BL (decide (a.n < a.low))) O (JLo (.dptr [I64 a.n,I64 a.low,I64 a.high]) [] O .scf ø (fun hc=>Gd H54 O O O) O (JLo (I64 a.n) [17] O .scf ⟨Ua,ø⟩ (fun hc=>Gf G9 O O O) O (JLo (.dptr [I64 a.high]) [] O .scf ø (fun hc=>Gd J56 O O O) O (JLo (I64 a.high) [19] O .scf ⟨Ua,ø⟩ (fun hc=>Gf G9 O O O) O (JLo (BL (decide (a.high < a.n))) [18,20] O .scf ⟨Ua,Ua,ø⟩ (fun hc=>G29 O O O) O (JLh (BL ((decide (a.n < a.low))||(decide (a.high < a.n)))) (G24 O O O O) O (G6 (t ?_))))))))))))))
  refine JCc O h ?_ ?_<;>intro h hb
  ·
   refine Jr fun v=>(JLm (BL false) O (G6 (v (Gy (fin1 BL h)))))
  ·
   refine Gp (q (G2 (JLh (I64 ((b+1:Nat):Int)) (Hv (Ha e a1) O O O) O (JLm (I64 ((b+1:Nat):Int)) O (G6 (a3 _ _ (b+1) () (app1 p h) (by omega) ⟨(.sm O O),ø,rfl⟩))))))
 ·
  have h:=app1 g (Hs d (H9 hb))
  refine Ho (z (Jr fun w=>(JLm (BL true) O (G6 (w (Gy (fin1 BL h)))))))

def Z9 (c:G5):Option Bool:=
 each (fun d a (f:Unit) e=>
  chk (c.Tiers - 1) fun g=>
  bnd (G17 [(Hf.mk d 0 g)]) fun b=>
  bnd (bif ((!(!b))&&(decide (0 < (a:Int)))) then chk ((a:Int) - 1) some else some 0) fun h=>
  bnd (bif ((!(!b))&&(decide (0 < (a:Int)))) then Jz c.Plugs h some else some default) fun i=>
  bif ((!b)||((decide (0 < (a:Int)))&&(decide (d≤i)))) then
  (some false)
  else
  (e ()))
 (fun(f:Unit)=>
  bnd (G17 [(Hf.mk c.Bay 0 39),(Hf.mk c.Row 0 30),(Hf.mk c.Tiers 1 10),(Hf.mk c.Height 0 40000),(Hf.mk c.Kilos20 0 500000000),(Hf.mk c.Kilos40 0 500000000),(Hf.mk c.Lash 0 1000000000000),(Hf.mk c.X (-500000) 500000),(Hf.mk c.Y (-500000) 500000),(Hf.mk c.Z (-500000) 500000)]) fun j=>
  some j) c.Plugs 0 ()
abbrev En (c:G5):List AV:=[I64 c.Tiers,I64 c.Height,I64 c.Kilos20,I64 c.Kilos40,I64 c.Lash,E5 c.Plugs,I64 c.X,I64 c.Y,I64 c.Z]
theorem J9d (c:G5) (r:Bool) (h:Z9 c=some r):Pure Em 56 [.agg (G5.cs c)] (·=BL r):=by
 unfold Z9 at h
 refine H7 [.tmp 2] Tryz.func56 O O (Jr fun a7=>(JLh (.ptr 1126 0) (Jx (cs:=(G5.cs c)) 1126 O O O O O) O (JLm (BL false) O (G6 (a7 (Gj [(1,Eh c)] [] 1126 rfl rfl rfl ø rfl (by exact⟨.ptr,ø⟩) (Jr fun a8=>(JLm (.fn 97 []) O (G6 (a8 (Js fun a9=>Jr fun b0=>(JLh (.dptr [E5 c.Plugs,I64 c.X,I64 c.Y,I64 c.Z]) (Gd H96 O O O) O (JLh (E5 c.Plugs) (Gf Qi O O O) O (JLl Gx O O O fun b1=>(JLm (I64 0) O (G6 (b0 (Gk ?_))))))))))))))))))
 obtain⟨b2,o,p,n,h⟩:=J3 h
 refine Hi (fun a (j:Unit)=>each b2 o (List.drop a c.Plugs) a j=some r) (fun a j=>[(1,Eh c),(3,.fn 97 []),(7,E5 c.Plugs),(8,Ek c.Plugs.length),(9,Ek a)]) (fun a j=>[]) (fun a=>c.Plugs.length - a) 0 () h ⟨(.sm O O),ø,rfl⟩ ?_
 clear h
 intro a j k b6 b3
 refine Jr fun q=>(JLh (BL (decide ((a:Int) < (c.Plugs.length:Int)))) (Jc O O O) O (G6 (q (Js fun s=>Gn O (fun hb=>?_) (fun hb=>?_)))))
 ·
  have l:=Jk hb
  obtain⟨d,b5,t,v,h⟩:=Hr k l
  replace h:=Ry p h
  refine Gp (s (Js fun w=>Gk (Jr fun x=>(JLm (Ek a) O (JLh (.dptr [I64 d]) (H3 (f:=I64) (xs:=c.Plugs) (y:=d) O O O Gx t O) O (JLh (I64 d) (Gf G9 O O O) O (JLm (Ek a) O (JLm (I64 d) O (G6 (x (Jr fun z=>(JLm (.fn 97 []) O (JLm (I64 d) O (JLh (.dptr (En c)) (Gd Y0 O O O) O (JLh (I64 c.Tiers) (Gf G9 O O O) O ?_)))))))))))))))
  obtain⟨e,a0,h⟩:=J5 h
  refine JLh (I64 e) (H0a a0 O O O) O (JLh (.agg [I64 d,I64 0,I64 e]) (J6 (cs:=[I64 d,I64 0,I64 e]) [(0,1),(1,1),(2,1)] [I64 0,I64 0,I64 0] [E0,E0,E0] Rg Yr (zzQ O) O O) O (JLh (LS 3 Hf.av [(Hf.mk d 0 e)]) (H8 (xs:=[.agg [I64 d,I64 0,I64 e]]) O ⟨O,O,ø⟩ Gca H2d O O O O) O ?_))
  obtain⟨g,a1,h⟩:=Gh h
  refine JLh (BL g) (G18 (args:=[LS 3 Hf.av [(Hf.mk d 0 e)]]) (caps:=[]) O O (H23 [(Hf.mk d 0 e)] g a1) J5e ⟨O,O,ø⟩ O) O (JLh (BL (!g)) (G11 (b:=g) O O) O (JLm (BL (!g)) O (JLo (Ek a) [] O .scf ø (fun hc=>G4 O O) O (JLo (BL (decide (0 < (a:Int)))) [24] O .scf ⟨Ua,ø⟩ (fun hc=>G29 O O O) O (JLo (BL (decide (0 < (a:Int)))) [25] O .scf ⟨Ua,ø⟩ (fun hc=>G4 O O) O (JLo (I64 d) [] O .optt ø (fun hc=>G4 O O) O (JLo (.dptr [E5 c.Plugs,I64 c.X,I64 c.Y,I64 c.Z]) [] O .optt ø (fun hc=>Gd H96 O O O) O (JLo (E5 c.Plugs) [28] O .optt ⟨Ua,ø⟩ (fun hc=>Gf Qi O O O) O (JLo (Ek a) [] O .optt ø (fun hc=>G4 O O) O ?_)))))))))
  obtain⟨b4,a2,h⟩:=Gh h
  refine JLo (I64 b4) [30] O .optt ⟨Ua,ø⟩ (fun hc=>H0a (H69 (Hc hc a2)) O O O) O ?_
  obtain⟨i,a3,h⟩:=Gh h
  refine JLo (.dptr [I64 i]) [29,31] O .optt ⟨Ua,Ua,ø⟩ (fun hc=>(match G13 (Hc hc a3) with | ⟨_,hm_,hy_⟩=>H3 (f:=I64) (xs:=c.Plugs) (y:=i) O O O Gx hy_ hm_)) O (JLo (I64 i) [32] O .optt ⟨Ua,ø⟩ (fun hc=>Gf G9 O O O) O (JLo (BL (decide (d≤i))) [27,33] O .optt ⟨Ua,Ua,ø⟩ (fun hc=>H0b O O O) O (Ga (u:=BL ((decide (0 < (a:Int)))&&(decide (d≤i)))) [(26,BL (decide (0 < (a:Int)))),(34,_)] O O O .scf ⟨.all id,.part,ø⟩ (fun hc=>Qs O O O O) ?_)))
  refine JLh (BL ((!g)||((decide (0 < (a:Int)))&&(decide (d≤i))))) (G24 O O O O) O (G6 (z (JCc O h (fun h hb=>?_) (fun h hb=>?_))))
  ·
   refine Jr fun a4=>(JLm (BL false) O (G6 (a4 (Gy (fin1 BL h)))))
  ·
   refine Gp (w (G2 (JLh (I64 ((a+1:Nat):Int)) (Hv (Ha l b1) O O O) O (JLm (I64 ((a+1:Nat):Int)) O (G6 (b3 _ _ (a+1) () (app1 v h) (by omega) ⟨(.sm O O),ø,rfl⟩))))))
 ·
  have h:=app1 n (Hs k (H9 hb))
  refine Ho (a9 ?_)
  refine Jr fun a5=>(JLm (.fn 97 []) O (JLh (Eh c) (Gd G2c O O O) O (JLh (I64 c.Bay) (Gf G9 O O O) O (JLh (.agg [I64 c.Bay,I64 0,I64 39]) (J6 (cs:=[I64 c.Bay,I64 0,I64 39]) [(0,1),(1,1),(2,1)] [I64 0,I64 0,I64 0] [E0,E0,E0] Rg Yr (zzQ O) O O) O (JLh (.dptr [I64 c.Row,BL c.Deck,I64 c.Tiers,I64 c.Height,I64 c.Kilos20,I64 c.Kilos40,I64 c.Lash,E5 c.Plugs,I64 c.X,I64 c.Y,I64 c.Z]) (Gd G2b O O O) O (JLh (I64 c.Row) (Gf G9 O O O) O (JLh (.agg [I64 c.Row,I64 0,I64 30]) (J6 (cs:=[I64 c.Row,I64 0,I64 30]) [(0,1),(1,1),(2,1)] [I64 0,I64 0,I64 0] [E0,E0,E0] Rg Yr (zzQ O) O O) O (JLh (.dptr (En c)) (Gd Y0 O O O) O (JLh (I64 c.Tiers) (Gf G9 O O O) O (JLh (.agg [I64 c.Tiers,I64 1,I64 10]) (J6 (cs:=[I64 c.Tiers,I64 1,I64 10]) [(0,1),(1,1),(2,1)] [I64 0,I64 0,I64 0] [E0,E0,E0] Rg Yr (zzQ O) O O) O (JLh (.dptr [I64 c.Height,I64 c.Kilos20,I64 c.Kilos40,I64 c.Lash,E5 c.Plugs,I64 c.X,I64 c.Y,I64 c.Z]) (Gd H97 O O O) O (JLh (I64 c.Height) (Gf G9 O O O) O (JLh (.agg [I64 c.Height,I64 0,I64 40000]) (J6 (cs:=[I64 c.Height,I64 0,I64 40000]) [(0,1),(1,1),(2,1)] [I64 0,I64 0,I64 0] [E0,E0,E0] Rg Yr (zzQ O) O O) O ?_)))))))))))))
  refine JLh (.dptr [I64 c.Kilos20,I64 c.Kilos40,I64 c.Lash,E5 c.Plugs,I64 c.X,I64 c.Y,I64 c.Z]) (Gd Jb9 O O O) O (JLh (I64 c.Kilos20) (Gf G9 O O O) O (JLh (.agg [I64 c.Kilos20,I64 0,I64 500000000]) (J6 (cs:=[I64 c.Kilos20,I64 0,I64 500000000]) [(0,1),(1,1),(2,1)] [I64 0,I64 0,I64 0] [E0,E0,E0] Rg Yr (zzQ O) O O) O (JLh (.dptr [I64 c.Kilos40,I64 c.Lash,E5 c.Plugs,I64 c.X,I64 c.Y,I64 c.Z]) (Gd Jb8 O O O) O (JLh (I64 c.Kilos40) (Gf G9 O O O) O (JLh (.agg [I64 c.Kilos40,I64 0,I64 500000000]) (J6 (cs:=[I64 c.Kilos40,I64 0,I64 500000000]) [(0,1),(1,1),(2,1)] [I64 0,I64 0,I64 0] [E0,E0,E0] Rg Yr (zzQ O) O O) O (JLh (.dptr [I64 c.Lash,E5 c.Plugs,I64 c.X,I64 c.Y,I64 c.Z]) (Gd Jb7 O O O) O (JLh (I64 c.Lash) (Gf G9 O O O) O (JLh (.agg [I64 c.Lash,I64 0,I64 1000000000000]) (J6 (cs:=[I64 c.Lash,I64 0,I64 1000000000000]) [(0,1),(1,1),(2,1)] [I64 0,I64 0,I64 0] [E0,E0,E0] Rg Yr (zzQ O) O O) O (JLh (.dptr [I64 c.X,I64 c.Y,I64 c.Z]) (Gd H95 O O O) O (JLh (I64 c.X) (Gf G9 O O O) O (JLh (.agg [I64 c.X,I64 (-500000),I64 500000]) (J6 (cs:=[I64 c.X,I64 (-500000),I64 500000]) [(0,1),(1,1),(2,1)] [I64 0,I64 0,I64 0] [E0,E0,E0] Rg Yr (zzQ O) O O) O (JLh (.dptr [I64 c.Y,I64 c.Z]) (Gd H53 O O O) O (JLh (I64 c.Y) (Gf G9 O O O) O ?_)))))))))))))
  refine JLh (.agg [I64 c.Y,I64 (-500000),I64 500000]) (J6 (cs:=[I64 c.Y,I64 (-500000),I64 500000]) [(0,1),(1,1),(2,1)] [I64 0,I64 0,I64 0] [E0,E0,E0] Rg Yr (zzQ O) O O) O (JLh (.dptr [I64 c.Z]) (Gd Gdd O O O) O (JLh (I64 c.Z) (Gf G9 O O O) O (JLh (.agg [I64 c.Z,I64 (-500000),I64 500000]) (J6 (cs:=[I64 c.Z,I64 (-500000),I64 500000]) [(0,1),(1,1),(2,1)] [I64 0,I64 0,I64 0] [E0,E0,E0] Rg Yr (zzQ O) O O) O (JLh (LS 3 Hf.av [(Hf.mk c.Bay 0 39),(Hf.mk c.Row 0 30),(Hf.mk c.Tiers 1 10),(Hf.mk c.Height 0 40000),(Hf.mk c.Kilos20 0 500000000),(Hf.mk c.Kilos40 0 500000000),(Hf.mk c.Lash 0 1000000000000),(Hf.mk c.X (-500000) 500000),(Hf.mk c.Y (-500000) 500000),(Hf.mk c.Z (-500000) 500000)]) (H8 (xs:=[.agg [I64 c.Bay,I64 0,I64 39],.agg [I64 c.Row,I64 0,I64 30],.agg [I64 c.Tiers,I64 1,I64 10],.agg [I64 c.Height,I64 0,I64 40000],.agg [I64 c.Kilos20,I64 0,I64 500000000],.agg [I64 c.Kilos40,I64 0,I64 500000000],.agg [I64 c.Lash,I64 0,I64 1000000000000],.agg [I64 c.X,I64 (-500000),I64 500000],.agg [I64 c.Y,I64 (-500000),I64 500000],.agg [I64 c.Z,I64 (-500000),I64 500000]]) O ⟨O,O,O,O,O,O,O,O,O,O,O,O,O,O,O,O,O,O,O,O,ø⟩ Gca H2d O O O O) O ?_))))
  obtain⟨m,a6,h⟩:=Gh h
  refine JLh (BL m) (G18 (args:=[LS 3 Hf.av [(Hf.mk c.Bay 0 39),(Hf.mk c.Row 0 30),(Hf.mk c.Tiers 1 10),(Hf.mk c.Height 0 40000),(Hf.mk c.Kilos20 0 500000000),(Hf.mk c.Kilos40 0 500000000),(Hf.mk c.Lash 0 1000000000000),(Hf.mk c.X (-500000) 500000),(Hf.mk c.Y (-500000) 500000),(Hf.mk c.Z (-500000) 500000)]]) (caps:=[]) O O (H23 [(Hf.mk c.Bay 0 39),(Hf.mk c.Row 0 30),(Hf.mk c.Tiers 1 10),(Hf.mk c.Height 0 40000),(Hf.mk c.Kilos20 0 500000000),(Hf.mk c.Kilos40 0 500000000),(Hf.mk c.Lash 0 1000000000000),(Hf.mk c.X (-500000) 500000),(Hf.mk c.Y (-500000) 500000),(Hf.mk c.Z (-500000) 500000)] m a6) J5e ⟨O,O,ø⟩ O) O (JLm (BL m) O (G6 (a5 (Gy (fin1 BL h)))))

def G88 (s:Ge) (Rp:Bool→Prop):Option Prop:=
 bif (((decide ((s.Columns.length:Int) < 1))||(decide (200 < (s.Columns.length:Int))))||(decide (40 < (s.Covers.length:Int)))) then
 (some (Rp false))
 else
 (each (fun c y (f:(Gu H4 Int)) m=>
   jp (fun g=>
    bif c.Deck then
    (g 1)
    else
    (g 0)) fun(k:Int)=>
   bnd (some (Gu.get f (H4.mk c.Bay c.Row k) 0)) fun v=>
   chk (v+1) fun w=>
   bnd (Z9 c) fun x=>
   bif (!x) then
   (some (Rp false))
   else
   (m (Gu.put f (H4.mk c.Bay c.Row k) w)))
  (fun(f:(Gu H4 Int))=>
   each (fun b z (h:(Gu H4 Int)) n=>
    bif (((decide (b.Bay < 0))||(decide (40≤b.Bay)))||(decide ((b.Rows.length:Int)=0))) then
    (some (Rp false))
    else
    (each (fun a d (e:(Gu H4 Int)) i=>
      bnd (bif ((!((decide (a < 0))||(decide (30 < a))))&&(decide (0 < (d:Int)))) then chk ((d:Int) - 1) some else some 0) fun o=>
      bnd (bif ((!((decide (a < 0))||(decide (30 < a))))&&(decide (0 < (d:Int)))) then Jz b.Rows o some else some default) fun p=>
      bif (((decide (a < 0))||(decide (30 < a)))||((decide (0 < (d:Int)))&&(decide (a≤p)))) then
      (some (Rp false))
      else
      (bnd (some (Gu.get e (H4.mk b.Bay a 2) 0)) fun q=>
       chk (q+1) fun r=>
       i (Gu.put e (H4.mk b.Bay a 2) r)))
     (fun(e:(Gu H4 Int))=>
      n e) b.Rows 0 h))
   (fun(h:(Gu H4 Int))=>
    Jec (fun(t:H4×Int) (u:Unit) j=>
     bif decide (1 < t.2) then
     (lft (some (Rp false)))
     else
     (j ()))
    (fun(u:Unit)=>
     some (Rp true)) (Gu.l h) ()) s.Covers 0 f) s.Columns 0 (Gu.empty:Gu H4 Int))
def Gd3 (s:Ge):Option Bool:=
 bif (((decide ((s.Columns.length:Int) < 1))||(decide (200 < (s.Columns.length:Int))))||(decide (40 < (s.Covers.length:Int)))) then
 (some (id false))
 else
 (each (fun c y (f:(Gu H4 Int)) m=>
   jp (fun g=>
    bif c.Deck then
    (g 1)
    else
    (g 0)) fun(k:Int)=>
   bnd (some (Gu.get f (H4.mk c.Bay c.Row k) 0)) fun v=>
   chk (v+1) fun w=>
   bnd (Z9 c) fun x=>
   bif (!x) then
   (some (id false))
   else
   (m (Gu.put f (H4.mk c.Bay c.Row k) w)))
  (fun(f:(Gu H4 Int))=>
   each (fun b z (h:(Gu H4 Int)) n=>
    bif (((decide (b.Bay < 0))||(decide (40≤b.Bay)))||(decide ((b.Rows.length:Int)=0))) then
    (some (id false))
    else
    (each (fun a d (e:(Gu H4 Int)) i=>
      bnd (bif ((!((decide (a < 0))||(decide (30 < a))))&&(decide (0 < (d:Int)))) then chk ((d:Int) - 1) some else some 0) fun o=>
      bnd (bif ((!((decide (a < 0))||(decide (30 < a))))&&(decide (0 < (d:Int)))) then Jz b.Rows o some else some default) fun p=>
      bif (((decide (a < 0))||(decide (30 < a)))||((decide (0 < (d:Int)))&&(decide (a≤p)))) then
      (some (id false))
      else
      (bnd (some (Gu.get e (H4.mk b.Bay a 2) 0)) fun q=>
       chk (q+1) fun r=>
       i (Gu.put e (H4.mk b.Bay a 2) r)))
     (fun(e:(Gu H4 Int))=>
      n e) b.Rows 0 h))
   (fun(h:(Gu H4 Int))=>
    Hce (fun(t:H4×Int) (u:Unit) j=>
     bif decide (1 < t.2) then
     (lft (some (id false)))
     else
     (j ()))
    (fun(u:Unit)=>
     some (id true)) (Gu.l h) ()) s.Covers 0 f) s.Columns 0 (Gu.empty:Gu H4 Int))
abbrev Eo (s:Ge):List AV:=[Eb s.Covers,I64 s.Light.Kilos,I64 s.Light.X,I64 s.Light.Y,I64 s.Light.Z,E7 s.Rows,E8 s.Frames,E9 s.Tanks,I64 s.Gg.Tolerance,I64 s.Gg.Trim,I64 s.Gg.List_,I64 s.Gg.Stability]
theorem J9e (s:Ge) (Rp:Bool→Prop) (p:Prop) (h:G88 s Rp=some p) (hp:p):Pure Em 20 [.agg (Ge.cs s)] (fun av=>∃ r,Rp r∧av=BL r):=by
 unfold G88 at h
 refine H7 [.tmp 2] Tryz.func20 O O (Jr fun i8=>(JLh (.ptr 1061 0) (Jx (cs:=(Ge.cs s)) 1061 O O O O O) O (JLm (BL false) O (G6 (i8 (Gj [(1,Ef s)] [] 1061 rfl rfl rfl ø rfl (by exact⟨.ptr,ø⟩) (Js fun i9=>?_)))))))
 refine Jr fun j0=>(JLh (Ef s) (Gd Hk O O O) O (JLh (Ea s.Columns) (Gf J2 O O O) O (JLl Hj O O O fun k2=>(JLh (BL (decide ((s.Columns.length:Int) < 1))) (Jc O O O) O (JLm (BL (decide ((s.Columns.length:Int) < 1))) O (JLo (Ef s) [] O .scf ø (fun hc=>Gd Hk O O O) O (JLo (Ea s.Columns) [18] O .scf ⟨Ua,ø⟩ (fun hc=>Gf J2 O O O) O (JLo (Ek s.Columns.length) [19] O .scf ⟨Ua,ø⟩ (fun hc=>G25 (f:=G5.av) (xs:=s.Columns) Hj O O) O (JLo (BL (decide (200 < (s.Columns.length:Int)))) [20] O .scf ⟨Ua,ø⟩ (fun hc=>G29 O O O) O (JLh (BL ((decide ((s.Columns.length:Int) < 1))||(decide (200 < (s.Columns.length:Int))))) (G24 O O O O) O (JLm (BL ((decide ((s.Columns.length:Int) < 1))||(decide (200 < (s.Columns.length:Int))))) O (JLo (.dptr (Eo s)) [] O .scf ø (fun hc=>Gd G0a O O O) O (JLo (Eb s.Covers) [24] O .scf ⟨Ua,ø⟩ (fun hc=>Gf G73 O O O) O ?_)))))))))))))
 refine JLo (Ek s.Covers.length) [25] O .scf ⟨Ua,ø⟩ (fun hc=>G25 (f:=Gt.av) (xs:=s.Covers) Zw O O) O (JLo (BL (decide (40 < (s.Covers.length:Int)))) [26] O .scf ⟨Ua,ø⟩ (fun hc=>G29 O O O) O (JLh (BL (((decide ((s.Columns.length:Int) < 1))||(decide (200 < (s.Columns.length:Int))))||(decide (40 < (s.Covers.length:Int))))) (G24 O O O O) O (G6 (j0 (JCc O h (fun h hb=>?_) (fun h hb=>?_))))))
 ·
  refine Jr fun j1=>(JLm (BL false) O (G6 (j1 (Gy (⟨[BL false],[],ø,O,⟨⟨_,O,.conv (.same O)⟩,ø⟩,O,false,Eq.mpr (M0 h) hp,O⟩)))))
 ·
  refine Gp (i9 (Jr fun j2=>(JLh (.mp 1064) (G3f 1064 H4.kv I64 O O) O (JLm (.mp 1064) O (G6 (j2 (Js fun j3=>Jr fun j4=>(JLh (Ef s) (Gd Hk O O O) O (JLh (Ea s.Columns) (Gf J2 O O O) O (JLl Hj O O O fun f0=>(JLm (I64 0) O (G6 (j4 (Gk ?_))))))))))))))
  obtain⟨j5,f1,f2,c4,h⟩:=J3 h
  refine Hi (fun o (k:(Gu H4 Int))=>each j5 f1 (List.drop o s.Columns) o k=some p) (fun o k=>[(1,Ef s),(3,.mp 1064),(31,Ea s.Columns),(32,Ek s.Columns.length),(33,Ek o)]) (fun o k=>[(1064,MP 138 H4.kv I64 k)]) (fun o=>s.Columns.length - o) 0 (Gu.empty:Gu H4 Int) h ⟨(.sm O O),⟨fmQ O,ø⟩,rfl⟩ ?_
  clear h
  intro o k b5 k8 j6
  refine Jr fun f3=>(JLh (BL (decide ((o:Int) < (s.Columns.length:Int)))) (Jc O O O) O (G6 (f3 (Js fun f4=>Gn O (fun hb=>?_) (fun hb=>?_)))))
  ·
   have b6:=Jk hb
   obtain⟨g,k3,f5,f6,h⟩:=Hr b5 b6
   replace h:=Ry f2 h
   refine Gp (f4 (Js fun f7=>Gk (Jr fun f8=>(JLh (Eh g) (H3 (f:=G5.av) (xs:=s.Columns) (y:=g) O O O Hj f5 O) O (JLh (.agg (G5.cs g)) (Gi G44 O O O) O (JLh (.ptr 1062 0) (Hd 1062 12 Yq O O) O (Hb (u:=.junk) (Gz (u:=.agg (G5.cs g)) (ds:=(G5.cs g)) G96 O O O O O O O O) (G6 (f8 ?_)))))))))
   refine fzQ [(1,Ef s),(3,.mp 1064),(5,Eh g),(31,Ea s.Columns),(32,Ek s.Columns.length),(33,Ek o)] [(1064,MP 138 H4.kv I64 k)] 1062 rfl rfl rfl ⟨fmQ O,ø⟩ rfl (Jr fun f9=>(JLm (I64 0) O (G6 (f9 ?_))))
   obtain⟨g0,c5,h⟩:=R1 h
   refine Qa (fun n:Int=>g0 n=some p) (fun n=>[(1,Ef s),(3,.mp 1064),(5,Eh g),(6,I64 n),(31,Ea s.Columns),(32,Ek s.Columns.length),(33,Ek o)]) (fun n=>[(1064,MP 138 H4.kv I64 k)]) (fun Kj74 ej74=>?_) ?_
   ·
    refine Jr fun g1=>(JLh (.dptr ((G5.cs g).drop 2)) (Gd G2a O O O) O (JLh (BL g.Deck) (Gf Rs O O O) O (G6 (g1 (JCc O h (fun h hb=>?_) (fun h hb=>?_))))))
    ·
     refine G2 (JLm (I64 1) O (G6 (ej74 _ _ 1 h ⟨(.sm O O),⟨fmQ O,ø⟩,rfl⟩)))
    ·
     refine Gp (ej74 _ _ 0 h ⟨(.sm O O),⟨fmQ O,ø⟩,rfl⟩)
   ·intro n h
    replace h:=app1 c5 h
    refine Js fun g2=>Y6 (l':=[(1,Ef s),(3,.mp 1064),(5,Eh g),(6,I64 n),(31,Ea s.Columns),(32,Ek s.Columns.length),(33,Ek o)]) (L':=[(1064,MP 138 H4.kv I64 k)]) ⟨(.sm O O),⟨fmQ O,ø⟩,rfl⟩ ?_
    obtain⟨j7,b7,h⟩:=Gh h
    obtain⟨a4,b8,h⟩:=J5 h
    refine Qw [9,11] [0,0,0,0,0,0,0,0,0,0,1,0] [0,0,0,0,0,0,0,1,1,0,1,0] [[(1064,MP 138 H4.kv I64 k)],((1064,MI 138 H4.kv I64 k (H4.mk g.Bay g.Row n) 0)::[(1064,MP 138 H4.kv I64 k)]),((1064,MP 138 H4.kv I64 (Gu.put k (H4.mk g.Bay g.Row n) a4))::((1064,MI 138 H4.kv I64 k (H4.mk g.Bay g.Row n) 0)::[(1064,MP 138 H4.kv I64 k)]))] Q0 (by kernel_rfl) rfl rfl ?_
    refine Gq (u:=.mp 1064) O O ⟨Gm (G4 O O) O,ø⟩ (Gq (u:=Eh g) O O ⟨Gm (Gd G2c O O O) O,ø⟩ (Gq (u:=I64 g.Bay) O O ⟨Gm (Gf G9 O O O) O,ø⟩ (Gq (u:=.dptr ((G5.cs g).drop 1)) O O ⟨Gm (Gd G2b O O O) O,ø⟩ (Gq (u:=I64 g.Row) O O ⟨Gm (Gf G9 O O O) O,ø⟩ (Gq (u:=I64 n) O O ⟨Gm (G4 O O) O,ø⟩ (Gq (u:=.agg [I64 g.Bay,I64 g.Row,I64 n]) O O ⟨Gm (Hbf (cs:=[I64 g.Bay,I64 g.Row,I64 n]) [E0,E0,E0] J71 J11 O O) O,ø⟩ (Gq (u:=I64 j7) O O ⟨Gm (((M0 b7) ▸ Gf1 (av:=I64) (m:=k) (a:=(H4.mk g.Bay g.Row n)) 0 E0 O O O O Hf0 G61 H2c O)) O,Gm (((M0 b7) ▸ Jaa (av:=I64) (m:=k) (a:=(H4.mk g.Bay g.Row n)) 0 E0 O O O O Hf0 G61 H2c O)) O,ø⟩ (Gq (u:=I64 a4) O O ⟨Gm (Hv b8 O O O) O,Gm (Hv b8 O O O) O,ø⟩ (D_w (u:=.tup [.junk,I64 (G00 (Gu.l k) (H4.mk g.Bay g.Row n):Int)]) O O O O (Gm (J38 (m:=k) (a:=(H4.mk g.Bay g.Row n)) 0 E0 O O O O Hf0 G61 H2c O) O) (Gq (u:=I64 (G00 (Gu.l k) (H4.mk g.Bay g.Row n):Int)) O O ⟨Gm (Gv O O O) O,ø⟩ (H8e (u:=.junk) O O O O (Gm (Ha0 (m:=k) (a:=(H4.mk g.Bay g.Row n)) (v:=a4) 0 O O O O O O) O) (Z7 ?_))))))))))))
    refine g2 (Jr fun g3=>(JLh (.agg (G5.cs g)) (Gi G44 O O O) O ?_))
    obtain⟨a5,g4,h⟩:=Gh h
    refine JLh (BL a5) (H0 O (J9d g a5 g4) Qae ⟨O,O,ø⟩) O (JLh (BL (!a5)) (G11 (b:=a5) O O) O (G6 (g3 (JCc O h (fun h hb=>?_) (fun h hb=>?_)))))
    ·
     refine Jr fun g5=>(JLm (BL false) O (G6 (g5 (Gy (⟨[BL false],[],ø,O,⟨⟨_,O,.conv (.same O)⟩,ø⟩,O,false,Eq.mpr (M0 h) hp,O⟩)))))
    ·
     refine Gp (f7 (G2 (JLh (I64 ((o+1:Nat):Int)) (Hv (Ha b6 f0) O O O) O (JLm (I64 ((o+1:Nat):Int)) O (G6 (j6 _ _ (o+1) (Gu.put k (H4.mk g.Bay g.Row n) a4) (app1 f6 h) (by omega) ⟨(.sm O O),⟨fmQ O,ø⟩,rfl⟩))))))
  ·
   have h:=app1 c4 (Hs b5 (H9 hb))
   refine Ho (j3 (Js fun g6=>Jr fun g7=>(JLh (.dptr (Eo s)) (Gd G0a O O O) O (JLh (Eb s.Covers) (Gf G73 O O O) O (JLl Zw O O O fun g8=>(JLm (I64 0) O (G6 (g7 (Gk ?_)))))))))
   obtain⟨j8,g9,h0,c6,h⟩:=J3 h
   refine Hi (fun t (w:(Gu H4 Int))=>each j8 g9 (List.drop t s.Covers) t w=some p) (fun t w=>[(3,.mp 1064),(55,Eb s.Covers),(56,Ek s.Covers.length),(57,Ek t)]) (fun t w=>[(1064,MP 138 H4.kv I64 w)]) (fun t=>s.Covers.length - t) 0 k h ⟨(.sm O O),⟨fmQ O,ø⟩,rfl⟩ ?_
   clear h
   intro t w b9 k9 j9
   refine Jr fun h1=>(JLh (BL (decide ((t:Int) < (s.Covers.length:Int)))) (Jc O O O) O (G6 (h1 (Js fun h2=>Gn O (fun hb=>?_) (fun hb=>?_)))))
   ·
    have c0:=Jk hb
    obtain⟨c,k4,h3,h4,h⟩:=Hr b9 c0
    replace h:=Ry h0 h
    refine Gp (h2 (Js fun h5=>Gk (Jr fun h6=>(JLh (.dptr [I64 c.Bay,E5 c.Rows]) (H3 (f:=Gt.av) (xs:=s.Covers) (y:=c) O O O Zw h3 O) O (JLh (.agg [I64 c.Bay,E5 c.Rows]) (Gi H34 O O O) O (JLh (.ptr 1063 0) (Hd 1063 2 Gc9 O O) O (Hb (u:=.junk) (Gz (u:=.agg [I64 c.Bay,E5 c.Rows]) (ds:=[I64 c.Bay,E5 c.Rows]) J14 O O O O O O O O) (G6 (h6 (fzQ [(3,.mp 1064),(8,.dptr [I64 c.Bay,E5 c.Rows]),(55,Eb s.Covers),(56,Ek s.Covers.length),(57,Ek t)] [(1064,MP 138 H4.kv I64 w)] 1063 rfl rfl rfl ⟨fmQ O,ø⟩ rfl (Js fun h7=>?_)))))))))))
    refine Jr fun h8=>(JLh (.dptr [I64 c.Bay,E5 c.Rows]) (Gd G77 O O O) O (JLh (I64 c.Bay) (Gf G9 O O O) O (JLh (BL (decide (c.Bay < 0))) (Jc O O O) O (JLm (BL (decide (c.Bay < 0))) O (JLo (.dptr [I64 c.Bay,E5 c.Rows]) [] O .scf ø (fun hc=>Gd G77 O O O) O (JLo (I64 c.Bay) [65] O .scf ⟨Ua,ø⟩ (fun hc=>Gf G9 O O O) O (JLo (BL (decide (40≤c.Bay))) [66] O .scf ⟨Ua,ø⟩ (fun hc=>Gf2 O O O) O (JLh (BL ((decide (c.Bay < 0))||(decide (40≤c.Bay)))) (G24 O O O O) O (JLm (BL ((decide (c.Bay < 0))||(decide (40≤c.Bay)))) O (JLo (.dptr [E5 c.Rows]) [] O .scf ø (fun hc=>Gd G76 O O O) O (JLo (E5 c.Rows) [70] O .scf ⟨Ua,ø⟩ (fun hc=>Gf Qi O O O) O (JLo (Ek c.Rows.length) [71] O .scf ⟨Ua,ø⟩ (fun hc=>G25 (f:=I64) (xs:=c.Rows) Gx O O) O (JLo (BL (decide ((c.Rows.length:Int)=0))) [72] O .scf ⟨Ua,ø⟩ (fun hc=>Q4 O O O) O ?_)))))))))))))
    refine JLh (BL (((decide (c.Bay < 0))||(decide (40≤c.Bay)))||(decide ((c.Rows.length:Int)=0)))) (G24 O O O O) O (G6 (h8 (JCc O h (fun h hb=>?_) (fun h hb=>?_))))
    ·
     refine Jr fun h9=>(JLm (BL false) O (G6 (h9 (Gy (⟨[BL false],[],ø,O,⟨⟨_,O,.conv (.same O)⟩,ø⟩,O,false,Eq.mpr (M0 h) hp,O⟩)))))
    ·
     refine Gp (h7 (Jr fun i0=>(JLh (.dptr [E5 c.Rows]) (Gd G76 O O O) O (JLh (E5 c.Rows) (Gf Qi O O O) O (JLl Gx O O O fun i1=>(JLm (I64 0) O (G6 (i0 (Gk ?_)))))))))
     obtain⟨i2,c7,c8,c1,h⟩:=J3 h
     refine Hi (fun i (j:(Gu H4 Int))=>each i2 c7 (List.drop i c.Rows) i j=some p) (fun i j=>[(3,.mp 1064),(8,.dptr [I64 c.Bay,E5 c.Rows]),(55,Eb s.Covers),(56,Ek s.Covers.length),(57,Ek t),(76,E5 c.Rows),(77,Ek c.Rows.length),(78,Ek i)]) (fun i j=>[(1064,MP 138 H4.kv I64 j)]) (fun i=>c.Rows.length - i) 0 w h ⟨(.sm O O),⟨fmQ O,ø⟩,rfl⟩ ?_
     clear h
     intro i j a6 k5 i3
     refine Jr fun c9=>(JLh (BL (decide ((i:Int) < (c.Rows.length:Int)))) (Jc O O O) O (G6 (c9 (Js fun d0=>Gn O (fun hb=>?_) (fun hb=>?_)))))
     ·
      have a7:=Jk hb
      obtain⟨d,k0,d1,d2,h⟩:=Hr a6 a7
      replace h:=Ry c8 h
      refine Gp (d0 (Js fun d3=>Gk (Jr fun d4=>(JLm (Ek i) O (JLh (.dptr [I64 d]) (H3 (f:=I64) (xs:=c.Rows) (y:=d) O O O Gx d1 O) O (JLh (I64 d) (Gf G9 O O O) O (JLm (Ek i) O (JLm (I64 d) O (G6 (d4 (Js fun d5=>?_)))))))))))
      refine Jr fun d6=>(JLm (I64 d) O (JLh (BL (decide (d < 0))) (Jc O O O) O (JLm (BL (decide (d < 0))) O (JLo (I64 d) [] O .scf ø (fun hc=>G4 O O) O (JLo (BL (decide (30 < d))) [86] O .scf ⟨Ua,ø⟩ (fun hc=>G29 O O O) O (JLh (BL ((decide (d < 0))||(decide (30 < d)))) (G24 O O O O) O (JLm (BL ((decide (d < 0))||(decide (30 < d)))) O (JLo (Ek i) [] O .scf ø (fun hc=>G4 O O) O (JLo (BL (decide (0 < (i:Int)))) [90] O .scf ⟨Ua,ø⟩ (fun hc=>G29 O O O) O (JLo (BL (decide (0 < (i:Int)))) [91] O .scf ⟨Ua,ø⟩ (fun hc=>G4 O O) O (JLo (I64 d) [] O .optt ø (fun hc=>G4 O O) O (JLo (.dptr [E5 c.Rows]) [] O .optt ø (fun hc=>Gd G76 O O O) O (JLo (E5 c.Rows) [94] O .optt ⟨Ua,ø⟩ (fun hc=>Gf Qi O O O) O ?_)))))))))))))
      refine JLo (Ek i) [] O .optt ø (fun hc=>G4 O O) O ?_
      obtain⟨i4,d7,h⟩:=Gh h
      refine JLo (I64 i4) [96] O .optt ⟨Ua,ø⟩ (fun hc=>H0a (H69 (Hc hc d7)) O O O) O ?_
      obtain⟨a0,d8,h⟩:=Gh h
      refine JLo (.dptr [I64 a0]) [95,97] O .optt ⟨Ua,Ua,ø⟩ (fun hc=>(match G13 (Hc hc d8) with | ⟨_,hm_,hy_⟩=>H3 (f:=I64) (xs:=c.Rows) (y:=a0) O O O Gx hy_ hm_)) O (JLo (I64 a0) [98] O .optt ⟨Ua,ø⟩ (fun hc=>Gf G9 O O O) O (JLo (BL (decide (d≤a0))) [93,99] O .optt ⟨Ua,Ua,ø⟩ (fun hc=>H0b O O O) O (Ga (u:=BL ((decide (0 < (i:Int)))&&(decide (d≤a0)))) [(92,BL (decide (0 < (i:Int)))),(100,_)] O O O .scf ⟨.all id,.part,ø⟩ (fun hc=>Qs O O O O) ?_)))
      refine JLh (BL (((decide (d < 0))||(decide (30 < d)))||((decide (0 < (i:Int)))&&(decide (d≤a0))))) (G24 O O O O) O (G6 (d6 (JCc O h (fun h hb=>?_) (fun h hb=>?_))))
      ·
       refine Jr fun d9=>(JLm (BL false) O (G6 (d9 (Gy (⟨[BL false],[],ø,O,⟨⟨_,O,.conv (.same O)⟩,ø⟩,O,false,Eq.mpr (M0 h) hp,O⟩)))))
      ·
       refine Gp (d5 (Y6 (l':=[(3,.mp 1064),(8,.dptr [I64 c.Bay,E5 c.Rows]),(10,I64 d),(55,Eb s.Covers),(56,Ek s.Covers.length),(57,Ek t),(76,E5 c.Rows),(77,Ek c.Rows.length),(78,Ek i)]) (L':=[(1064,MP 138 H4.kv I64 j)]) ⟨(.sm O O),⟨fmQ O,ø⟩,rfl⟩ ?_))
       obtain⟨i5,a8,h⟩:=Gh h
       obtain⟨a1,a9,h⟩:=J5 h
       refine Qw [7,9] [0,0,0,0,0,0,0,0,1,0] [0,0,0,0,0,1,1,0,1,0] [[(1064,MP 138 H4.kv I64 j)],((1064,MI 138 H4.kv I64 j (H4.mk c.Bay d 2) 0)::[(1064,MP 138 H4.kv I64 j)]),((1064,MP 138 H4.kv I64 (Gu.put j (H4.mk c.Bay d 2) a1))::((1064,MI 138 H4.kv I64 j (H4.mk c.Bay d 2) 0)::[(1064,MP 138 H4.kv I64 j)]))] Q0 (by kernel_rfl) rfl rfl ?_
       refine Gq (u:=.mp 1064) O O ⟨Gm (G4 O O) O,ø⟩ (Gq (u:=.dptr [I64 c.Bay,E5 c.Rows]) O O ⟨Gm (Gd G77 O O O) O,ø⟩ (Gq (u:=I64 c.Bay) O O ⟨Gm (Gf G9 O O O) O,ø⟩ (Gq (u:=I64 d) O O ⟨Gm (G4 O O) O,ø⟩ (Gq (u:=.agg [I64 c.Bay,I64 d,I64 2]) O O ⟨Gm (Hbf (cs:=[I64 c.Bay,I64 d,I64 2]) [E0,E0,E0] J71 J11 O O) O,ø⟩ (Gq (u:=I64 i5) O O ⟨Gm (((M0 a8) ▸ Gf1 (av:=I64) (m:=j) (a:=(H4.mk c.Bay d 2)) 0 E0 O O O O Hf0 G61 H2c O)) O,Gm (((M0 a8) ▸ Jaa (av:=I64) (m:=j) (a:=(H4.mk c.Bay d 2)) 0 E0 O O O O Hf0 G61 H2c O)) O,ø⟩ (Gq (u:=I64 a1) O O ⟨Gm (Hv a9 O O O) O,Gm (Hv a9 O O O) O,ø⟩ (D_w (u:=.tup [.junk,I64 (G00 (Gu.l j) (H4.mk c.Bay d 2):Int)]) O O O O (Gm (J38 (m:=j) (a:=(H4.mk c.Bay d 2)) 0 E0 O O O O Hf0 G61 H2c O) O) (Gq (u:=I64 (G00 (Gu.l j) (H4.mk c.Bay d 2):Int)) O O ⟨Gm (Gv O O O) O,ø⟩ (H8e (u:=.junk) O O O O (Gm (Ha0 (m:=j) (a:=(H4.mk c.Bay d 2)) (v:=a1) 0 O O O O O O) O) (Z7 ?_))))))))))
       refine d3 (G2 (JLh (I64 ((i+1:Nat):Int)) (Hv (Ha a7 i1) O O O) O (JLm (I64 ((i+1:Nat):Int)) O (G6 (i3 _ _ (i+1) (Gu.put j (H4.mk c.Bay d 2) a1) (app1 d2 h) (by omega) ⟨(.sm O O),⟨fmQ O,ø⟩,rfl⟩)))))
     ·
      have h:=app1 c1 (Hs a6 (H9 hb))
      refine Ho (h5 (G2 (JLh (I64 ((t+1:Nat):Int)) (Hv (Ha c0 g8) O O O) O (JLm (I64 ((t+1:Nat):Int)) O (G6 (j9 _ _ (t+1) j (app1 h4 h) (by omega) ⟨(.sm O O),⟨fmQ O,ø⟩,rfl⟩))))))
   ·
    have h:=app1 c6 (Hs b9 (H9 hb))
    refine Ho (g6 (Js fun e0=>Jr fun e1=>(JLm (.mp 1064) O (JLh (.it 1065) (Ja9 1065 (m:=w) O O O O G61) O (G6 (e1 (Gk ?_)))))))
    obtain⟨i6,e2,e3,c2,h⟩:=J8d h
    refine Ja3 (Gu.size w) (fun x (a2:Unit)=>MInv i6 e2 (Gu.l w) x a2) (fun x a2=>[(115,.it 1065)]) (fun x a2=>[(1064,MP 138 H4.kv I64 w),(1065,.iter (.mp 1064) (Gu.size w) x)]) () (MInv.start h hp) ⟨⟨.same O,ø⟩,⟨⟨_,O,.map⟩,⟨_,O,.iter O⟩,ø⟩,O⟩ ?_
    clear h hp
    intro x a2 b0 k6 i7
    refine Jr fun b1=>H43 O O O (Q26 (m:=w) O O O O) ?_
    intro u_ L_ hn_
    rcases hn_ with ⟨c3,z,a3,b2,rfl,rfl⟩ | ⟨e4,rfl,rfl⟩
    ·
     obtain⟨k7,h,b3,b4⟩:=b0.step a3 b2
     replace h:=J03 e3 h
     refine JLh (BL true) (Gv O O O) O (G6 (b1 (Js fun e5=>Ja4 O (Gp (e5 (Gk (Jr fun e6=>(JLh (.tup [.agg (H4.cs z.1),I64 z.2]) (Jad (kv:=H4.kv) (av:=I64) (m:=w) (q:=c3) (seen:=x) (e:=z) O O O O a3) O (JLh (I64 z.2) (Gv O O O) O (JLm (I64 z.2) O (G6 (e6 (Jr fun e7=>(JLm (I64 z.2) O (JLh (BL (decide (1 < z.2))) (G29 O O O) O (G6 (e7 (JCc O h (fun h hb=>?_) (fun h hb=>?_)))))))))))))))))))
     ·
      refine Jr fun e8=>(JLm (BL false) O (G6 (e8 (Gy ?_))))
      obtain⟨y_,hy_,hl_⟩:=Raa h
      exact⟨[BL false],[],ø,O,⟨⟨_,O,.conv (.same O)⟩,ø⟩,O,false,Eq.mpr (M0 hl_) (b3 y_ hy_),O⟩
     ·
      refine Gp (i7 _ _ (x++[c3]) () (b4 _ (M0 h).symm) (Hef (Ky a3).1 b2) ⟨⟨.same O,ø⟩,⟨⟨_,O,.map⟩,⟨_,O,.iter O⟩,ø⟩,O⟩)
    ·
     obtain⟨p_,h,hp⟩:=b0.done e4
     replace h:=app1 c2 h
     refine JLh (BL false) (Gv O O O) O (G6 (b1 (Js fun k1=>Ja5 O (Ho (e0 (Jr fun e9=>(JLm (BL true) O (G6 (e9 (Gy (⟨[BL true],[],ø,O,⟨⟨_,O,.conv (.same O)⟩,ø⟩,O,true,Eq.mpr (M0 h) hp,O⟩)))))))))))
theorem J9f (S_:(Ge)→Option Bool) (hS_:∀ s r,S_ s=some r→∃ p:Prop,G88 s (fun r_=>r_=r)=some p∧p) (s:Ge) (r:Bool) (h:S_ s=some r):Pure Em 20 [.agg (Ge.cs s)] (·=BL r):=by
 obtain⟨p,a,b⟩:=hS_ s r h
 exact(J9e s _ p a b).monoP (fun av hh=>by obtain⟨r_,rfl,ha⟩:=hh; exact ha)

def G0d (size:Int):Option (List Int):=
 bif decide (size=40) then
 (some [0])
 else
 (bif decide (size=20) then
  (some [1,2])
  else
  (some []))
theorem H4a (size:Int) (r:(List Int)) (h:G0d size=some r):Pure Em 73 [U8 size] (·=Ed r):=by
 unfold G0d at h
 refine H7 [.tmp 2] Tryz.func73 O O (Jr fun a=>(JLh (Ed ([]:List Int)) (Qh 1 O O) O (G6 (a (Js fun b=>Jr fun c=>(JLm (U8 size) O (G6 (c (Gk (Jr fun d=>(JLh (BL (decide (size=40))) (Q4 O O O) O (JLm (BL (decide (size=40))) O (G6 (d (JCc O h (fun h hb=>?_) (fun h hb=>?_))))))))))))))))
 ·
  refine Jr fun e=>(JLh (Ed [0]) (H8 (xs:=[U8 0]) O ⟨O,O,ø⟩ Zv J52 O O O O) O (JLm (Ed [0]) O (G6 (e (Gy (fin1 (fun r:(List Int)=>(Ed r:AV)) h))))))
 ·
  refine Jr fun f=>(JLh (BL (decide (size=20))) (Q4 O O O) O (JLm (BL (decide (size=20))) O (G6 (f (JCc O h (fun h hb=>?_) (fun h hb=>?_))))))
  ·
   refine Jr fun g=>(JLh (Ed [1,2]) (H8 (xs:=[U8 1,U8 2]) O ⟨O,O,O,O,ø⟩ Zv J52 O O O O) O (JLm (Ed [1,2]) O (G6 (g (Gy (fin1 (fun r:(List Int)=>(Ed r:AV)) h))))))
  ·
   refine Gp (b (Jr fun i=>(JLh (Ed ([]:List Int)) (Qh 1 O O) O (G6 (i (Gy (fin1 (fun r:(List Int)=>(Ed r:AV)) h)))))))

def Zt (x:Int):Option Bool:=
 some (decide (x≠x))
theorem H07 (x:Int) (r:Bool) (h:Zt x=some r):Pure Em 79 [I64 x] (·=BL r):=by
 unfold Zt at h
 refine H7 [.tmp 2] Tryz.func79 O O (Jr fun a=>(JLm (BL false) O (G6 (a (Jr fun b=>(JLm (I64 x) O (JLm (I64 x) O (JLh (BL (decide (x≠x))) (H27 O O O) O (JLm (BL (decide (x≠x))) O (G6 (b (Gy (fin1 BL h)))))))))))))

def Qq (x:Int) (y:Int):Option Int:=
 bnd (Zt x) fun b=>
 bnd (Zt y) fun a=>
 bif b then
 (bif a then
  (some 0)
  else
  (some (-1)))
 else
 (bif a then
  (some 1)
  else
  (bif decide (x < y) then
   (some (-1))
   else
   (bif decide (y < x) then
    (some 1)
    else
    (some 0))))
theorem Z6 (x:Int) (y:Int) (r:Int) (h:Qq x y=some r):Pure Em 43 [I64 x,I64 y] (·=I64 r):=by
 unfold Qq at h
 refine H7 [.tmp 4] Tryz.func43 O O (Jr fun p=>(JLm (I64 0) O (G6 (p (Jr fun q=>(JLm (I64 x) O ?_))))))
 obtain⟨b,s,h⟩:=Gh h
 refine JLh (BL b) (H0 O (H07 x b s) J62 ⟨O,O,ø⟩) O (JLm (BL b) O (G6 (q (Jr fun t=>(JLm (I64 y) O ?_)))))
 obtain⟨a,u,h⟩:=Gh h
 refine JLh (BL a) (H0 O (H07 y a u) J62 ⟨O,O,ø⟩) O (JLm (BL a) O (G6 (t (Js fun v=>Jr fun w=>(JLm (BL b) O (G6 (w (JCc O h (fun h hb=>?_) (fun h hb=>?_)))))))))
 ·
  refine Js fun z=>Jr fun a0=>(JLm (BL a) O (G6 (a0 (JCc O h (fun h hb=>?_) (fun h hb=>?_)))))
  ·
   refine Jr fun c=>(JLm (I64 0) O (G6 (c (Gy (fin1 I64 h)))))
  ·
   refine Gp (z (Jr fun d=>(JLm (I64 (-1)) O (G6 (d (Gy (fin1 I64 h)))))))
 ·
  refine Gp (v (Js fun e=>Jr fun f=>(JLm (BL a) O (G6 (f (JCc O h (fun h hb=>?_) (fun h hb=>?_)))))))
  ·
   refine Jr fun g=>(JLm (I64 1) O (G6 (g (Gy (fin1 I64 h)))))
  ·
   refine Gp (e (Js fun i=>Jr fun j=>(JLm (I64 x) O (JLm (I64 y) O (JLh (BL (decide (x < y))) (Jc O O O) O (G6 (j (JCc O h (fun h hb=>?_) (fun h hb=>?_)))))))))
   ·
    refine Jr fun k=>(JLm (I64 (-1)) O (G6 (k (Gy (fin1 I64 h)))))
   ·
    refine Gp (i (Js fun l=>Jr fun m=>(JLm (I64 x) O (JLm (I64 y) O (JLh (BL (decide (y < x))) (G29 O O O) O (G6 (m (JCc O h (fun h hb=>?_) (fun h hb=>?_)))))))))
    ·
     refine Jr fun n=>(JLm (I64 1) O (G6 (n (Gy (fin1 I64 h)))))
    ·
     refine Gp (l (Jr fun o=>(JLm (I64 0) O (G6 (o (Gy (fin1 I64 h)))))))

def G4b (vals:List Int):Option Int:=
 each (fun a d (c:Unit) b=>
  bif decide (a≠0) then
  (some a)
  else
  (b ()))
 (fun(c:Unit)=>
  some 0) vals 0 ()
theorem H71 (vals:List Int) (r:Int) (h:G4b vals=some r):Pure Em 42 [E5 vals] (·=I64 r):=by
 unfold G4b at h
 refine H7 [.tmp 2] Tryz.func42 O O (Jr fun u=>(JLm (I64 0) O (G6 (u (Jr fun v=>(JLm (I64 0) O (G6 (v (Js fun w=>Jr fun x=>(JLm (E5 vals) O (JLl Gx O O O fun z=>(JLm (I64 0) O (G6 (x (Gk ?_)))))))))))))))
 obtain⟨a0,i,j,g,h⟩:=J3 h
 refine Hi (fun a (c:Unit)=>each a0 i (List.drop a vals) a c=some r) (fun a c=>[(3,I64 0),(6,E5 vals),(7,Ek vals.length),(8,Ek a)]) (fun a c=>[]) (fun a=>vals.length - a) 0 () h ⟨(.sm O O),ø,rfl⟩ ?_
 clear h
 intro a c d a3 a1
 refine Jr fun k=>(JLh (BL (decide ((a:Int) < (vals.length:Int)))) (Jc O O O) O (G6 (k (Js fun l=>Gn O (fun hb=>?_) (fun hb=>?_)))))
 ·
  have e:=Jk hb
  obtain⟨b,a2,m,n,h⟩:=Hr d e
  replace h:=Ry j h
  refine Gp (l (Js fun o=>Gk (Jr fun p=>(JLh (.dptr [I64 b]) (H3 (f:=I64) (xs:=vals) (y:=b) O O O Gx m O) O (JLh (I64 b) (Gf G9 O O O) O (JLm (I64 b) O (G6 (p (Jr fun q=>(JLm (I64 b) O (JLm (I64 0) O (JLh (BL (decide (b≠0))) (H27 O O O) O (G6 (q (JCc O h (fun h hb=>?_) (fun h hb=>?_))))))))))))))))
  ·
   refine Jr fun s=>(JLm (I64 b) O (JLm (I64 b) O (G6 (s (Gy (fin1 I64 h))))))
  ·
   refine Gp (o (G2 (JLh (I64 ((a+1:Nat):Int)) (Hv (Ha e z) O O O) O (JLm (I64 ((a+1:Nat):Int)) O (G6 (a1 _ _ (a+1) () (app1 n h) (by omega) ⟨(.sm O O),ø,rfl⟩))))))
 ·
  have h:=app1 g (Hs d (H9 hb))
  refine Ho (w (Jr fun t=>(JLm (I64 0) O (JLm (I64 0) O (G6 (t (Gy (fin1 I64 h))))))))

end
end Go.Proofs.YtibhpogonkdiaaaGreat
