/- Walks of functions. -/
import Derived.Test.YtibhpogonkdiaaaGreatSortLay
import Derived.Test.YtibhpogonkdiaaaGreatIterJ
import Derived.Test.YtibhpogonkdiaaaGreatRangeI
import Derived.Test.YtibhpogonkdiaaaGreatGiv
import Derived.Test.YtibhpogonkdiaaaGreatIterJ
import Derived.Test.YtibhpogonkdiaaaGreatGiv
set_option linter.unnecessarySimpa false
set_option maxRecDepth 100000
set_option maxHeartbeats 1000000
set_option linter.unusedVariables false
set_option linter.unusedSimpArgs false
namespace Go.Proofs.YtibhpogonkdiaaaGreat
open Go.RowKit
noncomputable section
abbrev Em:=Tryz.prog
structure Hb where
 n:Int
 low:Int
 high:Int
 deriving DecidableEq,Inhabited
def Hb.cs (x:Hb):List AV:=[I64 x.n,I64 x.low,I64 x.high]
def Hb.av (x:Hb):AV:=.agg x.cs
structure G6 where
 Bay:Int
 Row:Int
 Deck:Bool
 Tiers:Int
 Height:Int
 Kilos20:Int
 Kilos40:Int
 Lash:Int
 Plugs:List Int
 X:Int
 Y:Int
 Z:Int
 deriving DecidableEq,Inhabited
def G6.cs (x:G6):List AV:=[I64 x.Bay,I64 x.Row,BL x.Deck,I64 x.Tiers,I64 x.Height,I64 x.Kilos20,I64 x.Kilos40,I64 x.Lash,E5 x.Plugs,I64 x.X,I64 x.Y,I64 x.Z]
def G6.av (x:G6):AV:=.agg x.cs
abbrev Eh (x:G6):AV:=.dptr (G6.cs x)
abbrev E7:=LS 12 G6.av
structure Gx where
 Bay:Int
 Rows:List Int
 deriving DecidableEq,Inhabited
def Gx.cs (x:Gx):List AV:=[I64 x.Bay,E5 x.Rows]
def Gx.av (x:Gx):AV:=.agg x.cs
abbrev Eb:=LS 2 Gx.av
structure Light where
 Kilos:Int
 X:Int
 Y:Int
 Z:Int
 deriving DecidableEq,Inhabited
def Light.cs (x:Light):List AV:=[I64 x.Kilos,I64 x.X,I64 x.Y,I64 x.Z]
def Light.av (x:Light):AV:=.agg x.cs
structure Row where
 Draught:Int
 Kilos:Int
 Buoy:Int
 Metacentre:Int
 Qbe:Int
 deriving DecidableEq,Inhabited
def Row.cs (x:Row):List AV:=[I64 x.Draught,I64 x.Kilos,I64 x.Buoy,I64 x.Metacentre,I64 x.Qbe]
def Row.av (x:Row):AV:=.agg x.cs
abbrev E8:=LS 5 Row.av
structure Frame where
 X:Int
 Light:Int
 Share:Int
 Shear:Int
 Bend:Int
 deriving DecidableEq,Inhabited
def Frame.cs (x:Frame):List AV:=[I64 x.X,I64 x.Light,I64 x.Share,I64 x.Shear,I64 x.Bend]
def Frame.av (x:Frame):AV:=.agg x.cs
abbrev E9:=LS 5 Frame.av
structure Ja where
 Kilos:Int
 X:Int
 Y:Int
 Z:Int
 Surface:Int
 Steps:List Int
 deriving DecidableEq,Inhabited
def Ja.cs (x:Ja):List AV:=[I64 x.Kilos,I64 x.X,I64 x.Y,I64 x.Z,I64 x.Surface,E5 x.Steps]
def Ja.av (x:Ja):AV:=.agg x.cs
abbrev Ea:=LS 6 Ja.av
structure Gm where
 Tolerance:Int
 Trim:Int
 List_:Int
 Stability:Int
 deriving DecidableEq,Inhabited
def Gm.cs (x:Gm):List AV:=[I64 x.Tolerance,I64 x.Trim,I64 x.List_,I64 x.Stability]
def Gm.av (x:Gm):AV:=.agg x.cs
structure Gf where
 Columns:List G6
 Covers:List Gx
 Light:Light
 Rows:List Row
 Frames:List Frame
 Tanks:List Ja
 Gm:Gm
 deriving DecidableEq,Inhabited
def Gf.cs (x:Gf):List AV:=[E7 x.Columns,Eb x.Covers,I64 x.Light.Kilos,I64 x.Light.X,I64 x.Light.Y,I64 x.Light.Z,E8 x.Rows,E9 x.Frames,Ea x.Tanks,I64 x.Gm.Tolerance,I64 x.Gm.Trim,I64 x.Gm.List_,I64 x.Gm.Stability]
def Gf.av (x:Gf):AV:=.agg x.cs
abbrev Ef (x:Gf):AV:=.dptr (Gf.cs x)
structure H1 where
 e0:Int
 e1:Int
 e2:Int
 deriving DecidableEq,Inhabited
def H1.cs (x:H1):List AV:=[I64 x.e0,I64 x.e1,I64 x.e2]
def H1.av (x:H1):AV:=.agg x.cs
def H1.ks (x:H1):List Value:=[.int .i64 x.e0,.int .i64 x.e1,.int .i64 x.e2]
def H1.kv (x:H1):Value:=.agg x.ks.toArray
structure Slot where
 G6:Int
 Tier:Int
 Half:Int
 deriving DecidableEq,Inhabited
def Slot.cs (x:Slot):List AV:=[I64 x.G6,I64 x.Tier,U8 x.Half]
def Slot.av (x:Slot):AV:=.agg x.cs
abbrev Ej (x:Slot):AV:=.dptr (Slot.cs x)
abbrev Ec:=LS 3 Slot.av
structure G1 where
 Box:Int
 Slot:Slot
 deriving DecidableEq,Inhabited
def G1.cs (x:G1):List AV:=[I64 x.Box,I64 x.Slot.G6,I64 x.Slot.Tier,U8 x.Slot.Half]
def G1.av (x:G1):AV:=.agg x.cs
abbrev Eg (x:G1):AV:=.dptr (G1.cs x)
abbrev E4:=LS 4 G1.av
structure G60 where
 States:List (List G1)
 Water:List (List Int)
 deriving DecidableEq,Inhabited
def G60.cs (x:G60):List AV:=[LS 1 (E4) x.States,LS 1 (E5) x.Water]
def G60.av (x:G60):AV:=.agg x.cs
structure Gz where
 Load:Int
 Discharge:Int
 deriving DecidableEq,Inhabited
def Gz.cs (x:Gz):List AV:=[I64 x.Load,I64 x.Discharge]
def Gz.av (x:Gz):AV:=.agg x.cs
structure G8 where
 Gz:Gz
 Whole:Int
 Half:Int
 deriving DecidableEq,Inhabited
def G8.cs (x:G8):List AV:=[I64 x.Gz.Load,I64 x.Gz.Discharge,I64 x.Whole,I64 x.Half]
def G8.av (x:G8):AV:=.agg x.cs
structure Box where
 ID:Int
 Number:ByteArray
 Size:Int
 High:Bool
 Kilos:Int
 Load:Int
 Discharge:Int
 Class:Int
 Reefer:Bool
 deriving DecidableEq,Inhabited
def Box.cs (x:Box):List AV:=[I64 x.ID,ST x.Number,U8 x.Size,BL x.High,I64 x.Kilos,I64 x.Load,I64 x.Discharge,U8 x.Class,BL x.Reefer]
def Box.av (x:Box):AV:=.agg x.cs
abbrev Ei (x:Box):AV:=.dptr (Box.cs x)
abbrev E6:=LS 9 Box.av
def Gz.ks (x:Gz):List Value:=[.int .i64 x.Load,.int .i64 x.Discharge]
def G8.vs (x:G8):List Value:=[.int .i64 x.Gz.Load,.int .i64 x.Gz.Discharge,.int .i64 x.Whole,.int .i64 x.Half]
namespace XAF
theorem Rba (a b:H1):H55 Em 4 139 [.int .i64 a.e0,.int .i64 a.e1,.int .i64 a.e2] [.int .i64 b.e0,.int .i64 b.e1,.int .i64 b.e2]=some (decide (a=b)):=by
 refine(show _=some ((a.e0==b.e0)&&((a.e1==b.e1)&&((a.e2==b.e2)&&true))) by kernel_rfl).trans (congrArg some ?_)
 rw [Bool.eq_iff_iff]
 simp only [Mb,beq_iff_eq,Mc,Bool.and_true]
 constructor
 ·intro h; obtain⟨_,_,_⟩:=a; obtain⟨_,_,_⟩:=b; simp_all
 ·intro h; subst h; simp
theorem H21:G7d Em 137 2=true:=by kernel_rfl
theorem Qa0:G7d Em 185 3=true:=by kernel_rfl
theorem Ye:G7d Em 37 9=true:=by kernel_rfl
theorem G37:G7d Em 41 12=true:=by kernel_rfl
theorem J59:R87 Em 139 3 1=true:=by kernel_rfl
theorem J53:H8 Em 42=true:=by kernel_rfl
theorem Gcb:H8 Em 43=true:=by kernel_rfl
theorem Q8d:H8 Em 56=true:=by kernel_rfl
theorem J4e:H8 Em 73=true:=by kernel_rfl
theorem J4b:H8 Em 79=true:=by kernel_rfl
theorem J47:H8 Em 97=true:=by kernel_rfl
theorem G66:Ji Em 137 0 0=true:=by kernel_rfl
theorem G65:Ji Em 137 1 1=true:=by kernel_rfl
theorem H45:Ji Em 185 0 0=true:=by kernel_rfl
theorem J3f:Ji Em 185 1 1=true:=by kernel_rfl
theorem J3e:Ji Em 185 2 2=true:=by kernel_rfl
theorem Ho:Ji Em 34 0 0=true:=by kernel_rfl
theorem Zw:Ji Em 34 1 1=true:=by kernel_rfl
theorem Y6:Ji Em 37 2 2=true:=by kernel_rfl
theorem Y5:Ji Em 37 5 5=true:=by kernel_rfl
theorem Yu:Ji Em 37 6 6=true:=by kernel_rfl
theorem G1e:Ji Em 41 0 0=true:=by kernel_rfl
theorem G1d:Ji Em 41 1 1=true:=by kernel_rfl
theorem H44:Ji Em 41 10 10=true:=by kernel_rfl
theorem Gc8:Ji Em 41 11 11=true:=by kernel_rfl
theorem G1c:Ji Em 41 2 2=true:=by kernel_rfl
theorem Rj:Ji Em 41 3 3=true:=by kernel_rfl
theorem H82:Ji Em 41 4 4=true:=by kernel_rfl
theorem Ja0:Ji Em 41 5 5=true:=by kernel_rfl
theorem J9f:Ji Em 41 6 6=true:=by kernel_rfl
theorem J9e:Ji Em 41 7 7=true:=by kernel_rfl
theorem H81:Ji Em 41 8 8=true:=by kernel_rfl
theorem H80:Ji Em 41 9 9=true:=by kernel_rfl
theorem Yt:Ji Em 48 0 0=true:=by kernel_rfl
theorem G50:Zk Em 138 139 3=true:=by kernel_rfl
theorem Q7:Em.follows .mixedOrders=true:=by kernel_rfl
theorem R4:placesOf Em 185=some [(0,1),(1,1),(2,1)]:=by kernel_rfl
theorem G64:placesOf Em 63=some [(0,1),(1,1),(2,1)]:=by kernel_rfl
theorem J2:Qo Em 24=true:=by kernel_rfl
theorem G63:Qo Em 25=true:=by kernel_rfl
theorem G9:Qo Em 3=true:=by kernel_rfl
theorem Q8:Qo Em 39=true:=by kernel_rfl
theorem Ra:Qo Em 4=true:=by kernel_rfl
theorem Jv:Qo Em 42=true:=by kernel_rfl
theorem Hz:Qo Em 5=true:=by kernel_rfl
theorem Rn:Qo Em 59=true:=by kernel_rfl
theorem J01:Qs Em 137 2=true:=by kernel_rfl
theorem Q1c:Qs Em 185 3=true:=by kernel_rfl
theorem Yy:Qs Em 3 1=true:=by kernel_rfl
theorem Y2:Qs Em 37 9=true:=by kernel_rfl
theorem G81:Qs Em 41 12=true:=by kernel_rfl
theorem Gb6:sliceB Em 183 185 3=true:=by kernel_rfl
theorem Hr:sliceB Em 24 41 12=true:=by kernel_rfl
theorem Zf:sliceB Em 25 137 2=true:=by kernel_rfl
theorem Jd:sliceB Em 38 37 9=true:=by kernel_rfl
theorem Gv:sliceB Em 39 3 1=true:=by kernel_rfl
theorem Hv:sliceB Em 42 59 1=true:=by kernel_rfl
theorem Ze:sliceB Em 54 5 1=true:=by kernel_rfl
theorem Hfe:(Em.info? 139).bind (fun i=>i.zero.map Value.cells)=some (List.toArray [E0,E0,E0]):=by kernel_rfl
theorem Yb:(Em.info? 185).bind (fun i=>i.zero.map Value.cells)=some (List.toArray [E0,E0,E0]):=by kernel_rfl
theorem G80:(Em.info? 63).bind (fun i=>i.zero.map Value.cells)=some (List.toArray [E0,E0,.int .u8 0]):=by kernel_rfl
theorem Gb5:Q4 Em 137 2=true:=by kernel_rfl
theorem H1b:Q4 Em 185 3=true:=by kernel_rfl
theorem Rm:Q4 Em 3 1=true:=by kernel_rfl
theorem Qq:Q4 Em 37 9=true:=by kernel_rfl
theorem Zd:Q4 Em 41 12=true:=by kernel_rfl
theorem J3a:Q4 Em 5 1=true:=by kernel_rfl
theorem H1a:(Em.info? 3).bind (·.zero)=some E0:=by kernel_rfl
theorem Hdd:Ga9 Em 139 H1.kv:=Ga9.of_eq H1.ks (by kernel_rfl) (fun a b h=>by simp only [H1.ks,List.cons.injEq,Value.int.injEq,Value.bool.injEq,Value.string.injEq,true_and,and_true] at h; obtain⟨_,_,_⟩:=a; obtain⟨_,_,_⟩:=b; simp_all) 4 (by decide) (fun a b=>Rba a b) (fun a=>by kernel_rfl) (fun a=>by simp [Instr.sameBits,H1.ks])
end XAF
open XAF

def G09 (l:List Hb):Option Bool:=
 each (fun a d (c:Unit) b=>
  bif ((decide (a.n < a.low))||(decide (a.high < a.n))) then
  (some false)
  else
  (b ()))
 (fun(c:Unit)=>
  some true) l 0 ()
theorem H11 (l:List Hb) (r:Bool) (h:G09 l=some r):Pure Em 97 [LS 3 Hb.av l] (·=BL r):=by
 unfold G09 at h
 refine H5 [.tmp 2] Tryz.func97 O O (Jr fun x=>(JLm (BL false) O (G4 (x (Js fun z=>Jr fun a0=>(JLm (LS 3 Hb.av l) O (JLl Gb6 O O O fun a1=>(JLm (I64 0) O (G4 (a0 (Gi ?_)))))))))))
 obtain⟨a2,i,j,g,h⟩:=Hu h
 refine Hf (fun b (c:Unit)=>each a2 i (List.drop b l) b c=some r) (fun b c=>[(5,LS 3 Hb.av l),(6,Ek l.length),(7,Ek b)]) (fun b c=>[]) (fun b=>l.length - b) 0 () h ⟨(.sm O O),ø,O⟩ ?_
 clear h
 intro b c d a5 a3
 refine Jr fun k=>(JLh (BL (decide ((b:Int) < (l.length:Int)))) (J8 O O O) O (G4 (k (Js fun m=>Gj O (fun hb=>?_) (fun hb=>?_)))))
 ·
  have e:=Jh hb
  obtain⟨a,a4,o,p,h⟩:=Hk d e
  replace h:=Rh j h
  refine Gn (m (Js fun q=>Gi (Jr fun s=>(JLh (.dptr [I64 a.n,I64 a.low,I64 a.high]) (H0 (f:=Hb.av) (xs:=l) (y:=a) O O O Gb6 o O) O (JLh (.agg [I64 a.n,I64 a.low,I64 a.high]) (Gk Qa0 O O O) O (JLh (.ptr 1156 0) (Hg 1156 3 H1b O O) O (Hd (u:=.junk) (Gy (u:=.agg [I64 a.n,I64 a.low,I64 a.high]) (ds:=[I64 a.n,I64 a.low,I64 a.high]) Q1c O O O O O O O O) (G4 (s (fzQ [(4,.dptr [I64 a.n,I64 a.low,I64 a.high]),(5,LS 3 Hb.av l),(6,Ek l.length),(7,Ek b)] [] 1156 rfl rfl rfl ø rfl ?_))))))))))
  refine Jr fun t=>(JLh (.dptr [I64 a.n,I64 a.low,I64 a.high]) (Gb H45 O O O) O (JLh (I64 a.n) (Ge G9 O O O) O (JLh (.dptr [I64 a.low,I64 a.high]) (Gb J3f O O O) O (JLh (I64 a.low) (Ge G9 O O O) O (JLh (BL (decide (a.n < a.low))) (J8 O O O) O (JLm (BL (decide (a.n < a.low))) O (JLo (.dptr [I64 a.n,I64 a.low,I64 a.high]) [] O .scf ø (fun hc=>Gb H45 O O O) O (JLo (I64 a.n) [17] O .scf ⟨Ua,ø⟩ (fun hc=>Ge G9 O O O) O (JLo (.dptr [I64 a.high]) [] O .scf ø (fun hc=>Gb J3e O O O) O (JLo (I64 a.high) [19] O .scf ⟨Ua,ø⟩ (fun hc=>Ge G9 O O O) O (JLo (BL (decide (a.high < a.n))) [18,20] O .scf ⟨Ua,Ua,ø⟩ (fun hc=>G1b O O O) O (JLh (BL ((decide (a.n < a.low))||(decide (a.high < a.n)))) (G18 O O O O) O (G4 (t ?_))))))))))))))
  refine JCc O h ?_ ?_<;>intro h hb
  ·
   refine Jr fun v=>(JLm (BL false) O (G4 (v (Gw (fin1 BL h)))))
  ·
   refine Gn (q (G2 (JLh (I64 ((b+1:Nat):Int)) (Ht (H7 e a1) O O O) O (JLm (I64 ((b+1:Nat):Int)) O (G4 (a3 _ _ (b+1) () (app1 p h) (by omega) ⟨(.sm O O),ø,rfl⟩))))))
 ·
  have h:=app1 g (Hm d (H6 hb))
  refine Hj (z (Jr fun w=>(JLm (BL true) O (G4 (w (Gw (fin1 BL h)))))))

def G13 (c:G6):Option Bool:=
 each (fun d a (f:Unit) e=>
  chk (c.Tiers - 1) fun g=>
  bnd (G09 [(Hb.mk d 0 g)]) fun b=>
  bnd (bif ((!(!b))&&(decide (0 < (a:Int)))) then chk ((a:Int) - 1) some else some 0) fun h=>
  bnd (bif ((!(!b))&&(decide (0 < (a:Int)))) then Ju c.Plugs h some else some default) fun i=>
  bif ((!b)||((decide (0 < (a:Int)))&&(decide (d≤i)))) then
  (some false)
  else
  (e ()))
 (fun(f:Unit)=>
  bnd (G09 [(Hb.mk c.Bay 0 39),(Hb.mk c.Row 0 30),(Hb.mk c.Tiers 1 10),(Hb.mk c.Height 0 40000),(Hb.mk c.Kilos20 0 500000000),(Hb.mk c.Kilos40 0 500000000),(Hb.mk c.Lash 0 1000000000000),(Hb.mk c.X (-500000) 500000),(Hb.mk c.Y (-500000) 500000),(Hb.mk c.Z (-500000) 500000)]) fun j=>
  some j) c.Plugs 0 ()
abbrev En (c:G6):List AV:=[I64 c.Tiers,I64 c.Height,I64 c.Kilos20,I64 c.Kilos40,I64 c.Lash,E5 c.Plugs,I64 c.X,I64 c.Y,I64 c.Z]
theorem J84 (c:G6) (r:Bool) (h:G13 c=some r):Pure Em 56 [.agg (G6.cs c)] (·=BL r):=by
 unfold G13 at h
 refine H5 [.tmp 2] Tryz.func56 O O (Jr fun a7=>(JLh (.ptr 1117 0) (Jt (cs:=(G6.cs c)) 1117 O O O O O) O (JLm (BL false) O (G4 (a7 (Gh [(1,Eh c)] [] 1117 rfl rfl rfl ø rfl (by exact⟨.ptr,ø⟩) (Jr fun a8=>(JLm (.fn 97 []) O (G4 (a8 (Js fun a9=>Jr fun b0=>(JLh (.dptr [E5 c.Plugs,I64 c.X,I64 c.Y,I64 c.Z]) (Gb H81 O O O) O (JLh (E5 c.Plugs) (Ge Q8 O O O) O (JLl Gv O O O fun b1=>(JLm (I64 0) O (G4 (b0 (Gi ?_))))))))))))))))))
 obtain⟨b2,o,p,n,h⟩:=Hu h
 refine Hf (fun a (j:Unit)=>each b2 o (List.drop a c.Plugs) a j=some r) (fun a j=>[(1,Eh c),(3,.fn 97 []),(7,E5 c.Plugs),(8,Ek c.Plugs.length),(9,Ek a)]) (fun a j=>[]) (fun a=>c.Plugs.length - a) 0 () h ⟨(.sm O O),ø,rfl⟩ ?_
 clear h
 intro a j k b6 b3
 refine Jr fun q=>(JLh (BL (decide ((a:Int) < (c.Plugs.length:Int)))) (J8 O O O) O (G4 (q (Js fun s=>Gj O (fun hb=>?_) (fun hb=>?_)))))
 ·
  have l:=Jh hb
  obtain⟨d,b5,t,v,h⟩:=Hk k l
  replace h:=Rh p h
  refine Gn (s (Js fun w=>Gi (Jr fun x=>(JLm (Ek a) O (JLh (.dptr [I64 d]) (H0 (f:=I64) (xs:=c.Plugs) (y:=d) O O O Gv t O) O (JLh (I64 d) (Ge G9 O O O) O (JLm (Ek a) O (JLm (I64 d) O (G4 (x (Jr fun z=>(JLm (.fn 97 []) O (JLm (I64 d) O (JLh (.dptr (En c)) (Gb Rj O O O) O (JLh (I64 c.Tiers) (Ge G9 O O O) O ?_)))))))))))))))
  obtain⟨e,a0,h⟩:=Hx h
  refine JLh (I64 e) (Gf6 a0 O O O) O (JLh (.agg [I64 d,I64 0,I64 e]) (J9 (cs:=[I64 d,I64 0,I64 e]) [(0,1),(1,1),(2,1)] [I64 0,I64 0,I64 0] [E0,E0,E0] R4 Yb (zzQ O) O O) O (JLh (LS 3 Hb.av [(Hb.mk d 0 e)]) (He (xs:=[.agg [I64 d,I64 0,I64 e]]) O ⟨O,O,ø⟩ Gb6 H1b O O O O) O ?_))
  obtain⟨g,a1,h⟩:=Gg h
  refine JLh (BL g) (G0c (args:=[LS 3 Hb.av [(Hb.mk d 0 e)]]) (caps:=[]) O O (H11 [(Hb.mk d 0 e)] g a1) J47 ⟨O,O,ø⟩ O) O (JLh (BL (!g)) (G03 (b:=g) O O) O (JLm (BL (!g)) O (JLo (Ek a) [] O .scf ø (fun hc=>G5 O O) O (JLo (BL (decide (0 < (a:Int)))) [24] O .scf ⟨Ua,ø⟩ (fun hc=>G1b O O O) O (JLo (BL (decide (0 < (a:Int)))) [25] O .scf ⟨Ua,ø⟩ (fun hc=>G5 O O) O (JLo (I64 d) [] O .optt ø (fun hc=>G5 O O) O (JLo (.dptr [E5 c.Plugs,I64 c.X,I64 c.Y,I64 c.Z]) [] O .optt ø (fun hc=>Gb H81 O O O) O (JLo (E5 c.Plugs) [28] O .optt ⟨Ua,ø⟩ (fun hc=>Ge Q8 O O O) O (JLo (Ek a) [] O .optt ø (fun hc=>G5 O O) O ?_)))))))))
  obtain⟨b4,a2,h⟩:=Gg h
  refine JLo (I64 b4) [30] O .optt ⟨Ua,ø⟩ (fun hc=>Gf6 (H59 (H9 hc a2)) O O O) O ?_
  obtain⟨i,a3,h⟩:=Gg h
  refine JLo (.dptr [I64 i]) [29,31] O .optt ⟨Ua,Ua,ø⟩ (fun hc=>(match G05 (H9 hc a3) with | ⟨_,hm_,hy_⟩=>H0 (f:=I64) (xs:=c.Plugs) (y:=i) O O O Gv hy_ hm_)) O (JLo (I64 i) [32] O .optt ⟨Ua,ø⟩ (fun hc=>Ge G9 O O O) O (JLo (BL (decide (d≤i))) [27,33] O .optt ⟨Ua,Ua,ø⟩ (fun hc=>Gf7 O O O) O (Gc (u:=BL ((decide (0 < (a:Int)))&&(decide (d≤i)))) [(26,BL (decide (0 < (a:Int)))),(34,_)] O O O .scf ⟨.all id,.part,ø⟩ (fun hc=>Rg O O O O) ?_)))
  refine JLh (BL ((!g)||((decide (0 < (a:Int)))&&(decide (d≤i))))) (G18 O O O O) O (G4 (z (JCc O h (fun h hb=>?_) (fun h hb=>?_))))
  ·
   refine Jr fun a4=>(JLm (BL false) O (G4 (a4 (Gw (fin1 BL h)))))
  ·
   refine Gn (w (G2 (JLh (I64 ((a+1:Nat):Int)) (Ht (H7 l b1) O O O) O (JLm (I64 ((a+1:Nat):Int)) O (G4 (b3 _ _ (a+1) () (app1 v h) (by omega) ⟨(.sm O O),ø,rfl⟩))))))
 ·
  have h:=app1 n (Hm k (H6 hb))
  refine Hj (a9 ?_)
  refine Jr fun a5=>(JLm (.fn 97 []) O (JLh (Eh c) (Gb G1e O O O) O (JLh (I64 c.Bay) (Ge G9 O O O) O (JLh (.agg [I64 c.Bay,I64 0,I64 39]) (J9 (cs:=[I64 c.Bay,I64 0,I64 39]) [(0,1),(1,1),(2,1)] [I64 0,I64 0,I64 0] [E0,E0,E0] R4 Yb (zzQ O) O O) O (JLh (.dptr [I64 c.Row,BL c.Deck,I64 c.Tiers,I64 c.Height,I64 c.Kilos20,I64 c.Kilos40,I64 c.Lash,E5 c.Plugs,I64 c.X,I64 c.Y,I64 c.Z]) (Gb G1d O O O) O (JLh (I64 c.Row) (Ge G9 O O O) O (JLh (.agg [I64 c.Row,I64 0,I64 30]) (J9 (cs:=[I64 c.Row,I64 0,I64 30]) [(0,1),(1,1),(2,1)] [I64 0,I64 0,I64 0] [E0,E0,E0] R4 Yb (zzQ O) O O) O (JLh (.dptr (En c)) (Gb Rj O O O) O (JLh (I64 c.Tiers) (Ge G9 O O O) O (JLh (.agg [I64 c.Tiers,I64 1,I64 10]) (J9 (cs:=[I64 c.Tiers,I64 1,I64 10]) [(0,1),(1,1),(2,1)] [I64 0,I64 0,I64 0] [E0,E0,E0] R4 Yb (zzQ O) O O) O (JLh (.dptr [I64 c.Height,I64 c.Kilos20,I64 c.Kilos40,I64 c.Lash,E5 c.Plugs,I64 c.X,I64 c.Y,I64 c.Z]) (Gb H82 O O O) O (JLh (I64 c.Height) (Ge G9 O O O) O (JLh (.agg [I64 c.Height,I64 0,I64 40000]) (J9 (cs:=[I64 c.Height,I64 0,I64 40000]) [(0,1),(1,1),(2,1)] [I64 0,I64 0,I64 0] [E0,E0,E0] R4 Yb (zzQ O) O O) O ?_)))))))))))))
  refine JLh (.dptr [I64 c.Kilos20,I64 c.Kilos40,I64 c.Lash,E5 c.Plugs,I64 c.X,I64 c.Y,I64 c.Z]) (Gb Ja0 O O O) O (JLh (I64 c.Kilos20) (Ge G9 O O O) O (JLh (.agg [I64 c.Kilos20,I64 0,I64 500000000]) (J9 (cs:=[I64 c.Kilos20,I64 0,I64 500000000]) [(0,1),(1,1),(2,1)] [I64 0,I64 0,I64 0] [E0,E0,E0] R4 Yb (zzQ O) O O) O (JLh (.dptr [I64 c.Kilos40,I64 c.Lash,E5 c.Plugs,I64 c.X,I64 c.Y,I64 c.Z]) (Gb J9f O O O) O (JLh (I64 c.Kilos40) (Ge G9 O O O) O (JLh (.agg [I64 c.Kilos40,I64 0,I64 500000000]) (J9 (cs:=[I64 c.Kilos40,I64 0,I64 500000000]) [(0,1),(1,1),(2,1)] [I64 0,I64 0,I64 0] [E0,E0,E0] R4 Yb (zzQ O) O O) O (JLh (.dptr [I64 c.Lash,E5 c.Plugs,I64 c.X,I64 c.Y,I64 c.Z]) (Gb J9e O O O) O (JLh (I64 c.Lash) (Ge G9 O O O) O (JLh (.agg [I64 c.Lash,I64 0,I64 1000000000000]) (J9 (cs:=[I64 c.Lash,I64 0,I64 1000000000000]) [(0,1),(1,1),(2,1)] [I64 0,I64 0,I64 0] [E0,E0,E0] R4 Yb (zzQ O) O O) O (JLh (.dptr [I64 c.X,I64 c.Y,I64 c.Z]) (Gb H80 O O O) O (JLh (I64 c.X) (Ge G9 O O O) O (JLh (.agg [I64 c.X,I64 (-500000),I64 500000]) (J9 (cs:=[I64 c.X,I64 (-500000),I64 500000]) [(0,1),(1,1),(2,1)] [I64 0,I64 0,I64 0] [E0,E0,E0] R4 Yb (zzQ O) O O) O (JLh (.dptr [I64 c.Y,I64 c.Z]) (Gb H44 O O O) O (JLh (I64 c.Y) (Ge G9 O O O) O ?_)))))))))))))
  refine JLh (.agg [I64 c.Y,I64 (-500000),I64 500000]) (J9 (cs:=[I64 c.Y,I64 (-500000),I64 500000]) [(0,1),(1,1),(2,1)] [I64 0,I64 0,I64 0] [E0,E0,E0] R4 Yb (zzQ O) O O) O (JLh (.dptr [I64 c.Z]) (Gb Gc8 O O O) O (JLh (I64 c.Z) (Ge G9 O O O) O (JLh (.agg [I64 c.Z,I64 (-500000),I64 500000]) (J9 (cs:=[I64 c.Z,I64 (-500000),I64 500000]) [(0,1),(1,1),(2,1)] [I64 0,I64 0,I64 0] [E0,E0,E0] R4 Yb (zzQ O) O O) O (JLh (LS 3 Hb.av [(Hb.mk c.Bay 0 39),(Hb.mk c.Row 0 30),(Hb.mk c.Tiers 1 10),(Hb.mk c.Height 0 40000),(Hb.mk c.Kilos20 0 500000000),(Hb.mk c.Kilos40 0 500000000),(Hb.mk c.Lash 0 1000000000000),(Hb.mk c.X (-500000) 500000),(Hb.mk c.Y (-500000) 500000),(Hb.mk c.Z (-500000) 500000)]) (He (xs:=[.agg [I64 c.Bay,I64 0,I64 39],.agg [I64 c.Row,I64 0,I64 30],.agg [I64 c.Tiers,I64 1,I64 10],.agg [I64 c.Height,I64 0,I64 40000],.agg [I64 c.Kilos20,I64 0,I64 500000000],.agg [I64 c.Kilos40,I64 0,I64 500000000],.agg [I64 c.Lash,I64 0,I64 1000000000000],.agg [I64 c.X,I64 (-500000),I64 500000],.agg [I64 c.Y,I64 (-500000),I64 500000],.agg [I64 c.Z,I64 (-500000),I64 500000]]) O ⟨O,O,O,O,O,O,O,O,O,O,O,O,O,O,O,O,O,O,O,O,ø⟩ Gb6 H1b O O O O) O ?_))))
  obtain⟨m,a6,h⟩:=Gg h
  refine JLh (BL m) (G0c (args:=[LS 3 Hb.av [(Hb.mk c.Bay 0 39),(Hb.mk c.Row 0 30),(Hb.mk c.Tiers 1 10),(Hb.mk c.Height 0 40000),(Hb.mk c.Kilos20 0 500000000),(Hb.mk c.Kilos40 0 500000000),(Hb.mk c.Lash 0 1000000000000),(Hb.mk c.X (-500000) 500000),(Hb.mk c.Y (-500000) 500000),(Hb.mk c.Z (-500000) 500000)]]) (caps:=[]) O O (H11 [(Hb.mk c.Bay 0 39),(Hb.mk c.Row 0 30),(Hb.mk c.Tiers 1 10),(Hb.mk c.Height 0 40000),(Hb.mk c.Kilos20 0 500000000),(Hb.mk c.Kilos40 0 500000000),(Hb.mk c.Lash 0 1000000000000),(Hb.mk c.X (-500000) 500000),(Hb.mk c.Y (-500000) 500000),(Hb.mk c.Z (-500000) 500000)] m a6) J47 ⟨O,O,ø⟩ O) O (JLm (BL m) O (G4 (a5 (Gw (fin1 BL h)))))

def G77 (s:Gf) (Rp:Bool→Prop):Option Prop:=
 bif (((decide ((s.Columns.length:Int) < 1))||(decide (200 < (s.Columns.length:Int))))||(decide (40 < (s.Covers.length:Int)))) then
 (some (Rp false))
 else
 (each (fun c y (f:(Gu H1 Int)) m=>
   jp (fun g=>
    bif c.Deck then
    (g 1)
    else
    (g 0)) fun(k:Int)=>
   bnd (some (Gu.get f (H1.mk c.Bay c.Row k) 0)) fun v=>
   chk (v+1) fun w=>
   bnd (G13 c) fun x=>
   bif (!x) then
   (some (Rp false))
   else
   (m (Gu.put f (H1.mk c.Bay c.Row k) w)))
  (fun(f:(Gu H1 Int))=>
   each (fun b z (h:(Gu H1 Int)) n=>
    bif (((decide (b.Bay < 0))||(decide (40≤b.Bay)))||(decide ((b.Rows.length:Int)=0))) then
    (some (Rp false))
    else
    (each (fun a d (e:(Gu H1 Int)) i=>
      bnd (bif ((!((decide (a < 0))||(decide (30 < a))))&&(decide (0 < (d:Int)))) then chk ((d:Int) - 1) some else some 0) fun o=>
      bnd (bif ((!((decide (a < 0))||(decide (30 < a))))&&(decide (0 < (d:Int)))) then Ju b.Rows o some else some default) fun p=>
      bif (((decide (a < 0))||(decide (30 < a)))||((decide (0 < (d:Int)))&&(decide (a≤p)))) then
      (some (Rp false))
      else
      (bnd (some (Gu.get e (H1.mk b.Bay a 2) 0)) fun q=>
       chk (q+1) fun r=>
       i (Gu.put e (H1.mk b.Bay a 2) r)))
     (fun(e:(Gu H1 Int))=>
      n e) b.Rows 0 h))
   (fun(h:(Gu H1 Int))=>
    Jd3 (fun(t:H1×Int) (u:Unit) j=>
     bif decide (1 < t.2) then
     (lft (some (Rp false)))
     else
     (j ()))
    (fun(u:Unit)=>
     some (Rp true)) (Gu.l h) ()) s.Covers 0 f) s.Columns 0 (Gu.empty:Gu H1 Int))
def Gbe (s:Gf):Option Bool:=
 bif (((decide ((s.Columns.length:Int) < 1))||(decide (200 < (s.Columns.length:Int))))||(decide (40 < (s.Covers.length:Int)))) then
 (some (id false))
 else
 (each (fun c y (f:(Gu H1 Int)) m=>
   jp (fun g=>
    bif c.Deck then
    (g 1)
    else
    (g 0)) fun(k:Int)=>
   bnd (some (Gu.get f (H1.mk c.Bay c.Row k) 0)) fun v=>
   chk (v+1) fun w=>
   bnd (G13 c) fun x=>
   bif (!x) then
   (some (id false))
   else
   (m (Gu.put f (H1.mk c.Bay c.Row k) w)))
  (fun(f:(Gu H1 Int))=>
   each (fun b z (h:(Gu H1 Int)) n=>
    bif (((decide (b.Bay < 0))||(decide (40≤b.Bay)))||(decide ((b.Rows.length:Int)=0))) then
    (some (id false))
    else
    (each (fun a d (e:(Gu H1 Int)) i=>
      bnd (bif ((!((decide (a < 0))||(decide (30 < a))))&&(decide (0 < (d:Int)))) then chk ((d:Int) - 1) some else some 0) fun o=>
      bnd (bif ((!((decide (a < 0))||(decide (30 < a))))&&(decide (0 < (d:Int)))) then Ju b.Rows o some else some default) fun p=>
      bif (((decide (a < 0))||(decide (30 < a)))||((decide (0 < (d:Int)))&&(decide (a≤p)))) then
      (some (id false))
      else
      (bnd (some (Gu.get e (H1.mk b.Bay a 2) 0)) fun q=>
       chk (q+1) fun r=>
       i (Gu.put e (H1.mk b.Bay a 2) r)))
     (fun(e:(Gu H1 Int))=>
      n e) b.Rows 0 h))
   (fun(h:(Gu H1 Int))=>
    Hbb (fun(t:H1×Int) (u:Unit) j=>
     bif decide (1 < t.2) then
     (lft (some (id false)))
     else
     (j ()))
    (fun(u:Unit)=>
     some (id true)) (Gu.l h) ()) s.Covers 0 f) s.Columns 0 (Gu.empty:Gu H1 Int))
abbrev Eo (s:Gf):List AV:=[Eb s.Covers,I64 s.Light.Kilos,I64 s.Light.X,I64 s.Light.Y,I64 s.Light.Z,E8 s.Rows,E9 s.Frames,Ea s.Tanks,I64 s.Gm.Tolerance,I64 s.Gm.Trim,I64 s.Gm.List_,I64 s.Gm.Stability]
theorem J85 (s:Gf) (Rp:Bool→Prop) (p:Prop) (h:G77 s Rp=some p) (hp:p):Pure Em 20 [.agg (Gf.cs s)] (fun av=>∃ r,Rp r∧av=BL r):=by
 unfold G77 at h
 refine H5 [.tmp 2] Tryz.func20 O O (Jr fun i8=>(JLh (.ptr 1052 0) (Jt (cs:=(Gf.cs s)) 1052 O O O O O) O (JLm (BL false) O (G4 (i8 (Gh [(1,Ef s)] [] 1052 rfl rfl rfl ø rfl (by exact⟨.ptr,ø⟩) (Js fun i9=>?_)))))))
 refine Jr fun j0=>(JLh (Ef s) (Gb Ho O O O) O (JLh (E7 s.Columns) (Ge J2 O O O) O (JLl Hr O O O fun k2=>(JLh (BL (decide ((s.Columns.length:Int) < 1))) (J8 O O O) O (JLm (BL (decide ((s.Columns.length:Int) < 1))) O (JLo (Ef s) [] O .scf ø (fun hc=>Gb Ho O O O) O (JLo (E7 s.Columns) [18] O .scf ⟨Ua,ø⟩ (fun hc=>Ge J2 O O O) O (JLo (Ek s.Columns.length) [19] O .scf ⟨Ua,ø⟩ (fun hc=>G24 (f:=G6.av) (xs:=s.Columns) Hr O O) O (JLo (BL (decide (200 < (s.Columns.length:Int)))) [20] O .scf ⟨Ua,ø⟩ (fun hc=>G1b O O O) O (JLh (BL ((decide ((s.Columns.length:Int) < 1))||(decide (200 < (s.Columns.length:Int))))) (G18 O O O O) O (JLm (BL ((decide ((s.Columns.length:Int) < 1))||(decide (200 < (s.Columns.length:Int))))) O (JLo (.dptr (Eo s)) [] O .scf ø (fun hc=>Gb Zw O O O) O (JLo (Eb s.Covers) [24] O .scf ⟨Ua,ø⟩ (fun hc=>Ge G63 O O O) O ?_)))))))))))))
 refine JLo (Ek s.Covers.length) [25] O .scf ⟨Ua,ø⟩ (fun hc=>G24 (f:=Gx.av) (xs:=s.Covers) Zf O O) O (JLo (BL (decide (40 < (s.Covers.length:Int)))) [26] O .scf ⟨Ua,ø⟩ (fun hc=>G1b O O O) O (JLh (BL (((decide ((s.Columns.length:Int) < 1))||(decide (200 < (s.Columns.length:Int))))||(decide (40 < (s.Covers.length:Int))))) (G18 O O O O) O (G4 (j0 (JCc O h (fun h hb=>?_) (fun h hb=>?_))))))
 ·
  refine Jr fun j1=>(JLm (BL false) O (G4 (j1 (Gw (⟨[BL false],[],ø,O,⟨⟨_,O,.conv (.same O)⟩,ø⟩,O,false,Eq.mpr (Kz h) hp,O⟩)))))
 ·
  refine Gn (i9 (Jr fun j2=>(JLh (.mp 1055) (G32 1055 H1.kv I64 O O) O (JLm (.mp 1055) O (G4 (j2 (Js fun j3=>Jr fun j4=>(JLh (Ef s) (Gb Ho O O O) O (JLh (E7 s.Columns) (Ge J2 O O O) O (JLl Hr O O O fun f0=>(JLm (I64 0) O (G4 (j4 (Gi ?_))))))))))))))
  obtain⟨j5,f1,f2,c4,h⟩:=Hu h
  refine Hf (fun o (k:(Gu H1 Int))=>each j5 f1 (List.drop o s.Columns) o k=some p) (fun o k=>[(1,Ef s),(3,.mp 1055),(31,E7 s.Columns),(32,Ek s.Columns.length),(33,Ek o)]) (fun o k=>[(1055,MP 138 H1.kv I64 k)]) (fun o=>s.Columns.length - o) 0 (Gu.empty:Gu H1 Int) h ⟨(.sm O O),⟨fmQ O,ø⟩,rfl⟩ ?_
  clear h
  intro o k b5 k8 j6
  refine Jr fun f3=>(JLh (BL (decide ((o:Int) < (s.Columns.length:Int)))) (J8 O O O) O (G4 (f3 (Js fun f4=>Gj O (fun hb=>?_) (fun hb=>?_)))))
  ·
   have b6:=Jh hb
   obtain⟨g,k3,f5,f6,h⟩:=Hk b5 b6
   replace h:=Rh f2 h
   refine Gn (f4 (Js fun f7=>Gi (Jr fun f8=>(JLh (Eh g) (H0 (f:=G6.av) (xs:=s.Columns) (y:=g) O O O Hr f5 O) O (JLh (.agg (G6.cs g)) (Gk G37 O O O) O (JLh (.ptr 1053 0) (Hg 1053 12 Zd O O) O (Hd (u:=.junk) (Gy (u:=.agg (G6.cs g)) (ds:=(G6.cs g)) G81 O O O O O O O O) (G4 (f8 ?_)))))))))
   refine fzQ [(1,Ef s),(3,.mp 1055),(5,Eh g),(31,E7 s.Columns),(32,Ek s.Columns.length),(33,Ek o)] [(1055,MP 138 H1.kv I64 k)] 1053 rfl rfl rfl ⟨fmQ O,ø⟩ rfl (Jr fun f9=>(JLm (I64 0) O (G4 (f9 ?_))))
   obtain⟨g0,c5,h⟩:=Qr h
   refine Q0 (fun n:Int=>g0 n=some p) (fun n=>[(1,Ef s),(3,.mp 1055),(5,Eh g),(6,I64 n),(31,E7 s.Columns),(32,Ek s.Columns.length),(33,Ek o)]) (fun n=>[(1055,MP 138 H1.kv I64 k)]) (fun Kj74 ej74=>?_) ?_
   ·
    refine Jr fun g1=>(JLh (.dptr ((G6.cs g).drop 2)) (Gb G1c O O O) O (JLh (BL g.Deck) (Ge Ra O O O) O (G4 (g1 (JCc O h (fun h hb=>?_) (fun h hb=>?_))))))
    ·
     refine G2 (JLm (I64 1) O (G4 (ej74 _ _ 1 h ⟨(.sm O O),⟨fmQ O,ø⟩,rfl⟩)))
    ·
     refine Gn (ej74 _ _ 0 h ⟨(.sm O O),⟨fmQ O,ø⟩,rfl⟩)
   ·intro n h
    replace h:=app1 c5 h
    refine Js fun g2=>Rt (l':=[(1,Ef s),(3,.mp 1055),(5,Eh g),(6,I64 n),(31,E7 s.Columns),(32,Ek s.Columns.length),(33,Ek o)]) (L':=[(1055,MP 138 H1.kv I64 k)]) ⟨(.sm O O),⟨fmQ O,ø⟩,rfl⟩ ?_
    obtain⟨j7,b7,h⟩:=Gg h
    obtain⟨a4,b8,h⟩:=Hx h
    refine Qy [9,11] [0,0,0,0,0,0,0,0,0,0,1,0] [0,0,0,0,0,0,0,1,1,0,1,0] [[(1055,MP 138 H1.kv I64 k)],((1055,MI 138 H1.kv I64 k (H1.mk g.Bay g.Row n) 0)::[(1055,MP 138 H1.kv I64 k)]),((1055,MP 138 H1.kv I64 (Gu.put k (H1.mk g.Bay g.Row n) a4))::((1055,MI 138 H1.kv I64 k (H1.mk g.Bay g.Row n) 0)::[(1055,MP 138 H1.kv I64 k)]))] Q7 (by kernel_rfl) rfl rfl ?_
    refine Gq (u:=.mp 1055) O O ⟨Gr (G5 O O) O,ø⟩ (Gq (u:=Eh g) O O ⟨Gr (Gb G1e O O O) O,ø⟩ (Gq (u:=I64 g.Bay) O O ⟨Gr (Ge G9 O O O) O,ø⟩ (Gq (u:=.dptr ((G6.cs g).drop 1)) O O ⟨Gr (Gb G1d O O O) O,ø⟩ (Gq (u:=I64 g.Row) O O ⟨Gr (Ge G9 O O O) O,ø⟩ (Gq (u:=I64 n) O O ⟨Gr (G5 O O) O,ø⟩ (Gq (u:=.agg [I64 g.Bay,I64 g.Row,I64 n]) O O ⟨Gr (Hab (cs:=[I64 g.Bay,I64 g.Row,I64 n]) [E0,E0,E0] J59 Hfe O O) O,ø⟩ (Gq (u:=I64 j7) O O ⟨Gr (((Kz b7) ▸ Gdc (av:=I64) (m:=k) (a:=(H1.mk g.Bay g.Row n)) 0 E0 O O O O Hdd G50 H1a O)) O,Gr (((Kz b7) ▸ J91 (av:=I64) (m:=k) (a:=(H1.mk g.Bay g.Row n)) 0 E0 O O O O Hdd G50 H1a O)) O,ø⟩ (Gq (u:=I64 a4) O O ⟨Gr (Ht b8 O O O) O,Gr (Ht b8 O O O) O,ø⟩ (D_w (u:=.tup [.junk,I64 (Zj (Gu.l k) (H1.mk g.Bay g.Row n):Int)]) O O O O (Gr (J21 (m:=k) (a:=(H1.mk g.Bay g.Row n)) 0 E0 O O O O Hdd G50 H1a O) O) (Gq (u:=I64 (Zj (Gu.l k) (H1.mk g.Bay g.Row n):Int)) O O ⟨Gr (Hp O O O) O,ø⟩ (J2d (u:=.junk) O O O O (Gr (H8b (m:=k) (a:=(H1.mk g.Bay g.Row n)) (v:=a4) 0 O O O O O O) O) (Zs ?_))))))))))))
    refine g2 (Jr fun g3=>(JLh (.agg (G6.cs g)) (Gk G37 O O O) O ?_))
    obtain⟨a5,g4,h⟩:=Gg h
    refine JLh (BL a5) (H2 O (J84 g a5 g4) Q8d ⟨O,O,ø⟩) O (JLh (BL (!a5)) (G03 (b:=a5) O O) O (G4 (g3 (JCc O h (fun h hb=>?_) (fun h hb=>?_)))))
    ·
     refine Jr fun g5=>(JLm (BL false) O (G4 (g5 (Gw (⟨[BL false],[],ø,O,⟨⟨_,O,.conv (.same O)⟩,ø⟩,O,false,Eq.mpr (Kz h) hp,O⟩)))))
    ·
     refine Gn (f7 (G2 (JLh (I64 ((o+1:Nat):Int)) (Ht (H7 b6 f0) O O O) O (JLm (I64 ((o+1:Nat):Int)) O (G4 (j6 _ _ (o+1) (Gu.put k (H1.mk g.Bay g.Row n) a4) (app1 f6 h) (by omega) ⟨(.sm O O),⟨fmQ O,ø⟩,rfl⟩))))))
  ·
   have h:=app1 c4 (Hm b5 (H6 hb))
   refine Hj (j3 (Js fun g6=>Jr fun g7=>(JLh (.dptr (Eo s)) (Gb Zw O O O) O (JLh (Eb s.Covers) (Ge G63 O O O) O (JLl Zf O O O fun g8=>(JLm (I64 0) O (G4 (g7 (Gi ?_)))))))))
   obtain⟨j8,g9,h0,c6,h⟩:=Hu h
   refine Hf (fun t (w:(Gu H1 Int))=>each j8 g9 (List.drop t s.Covers) t w=some p) (fun t w=>[(3,.mp 1055),(55,Eb s.Covers),(56,Ek s.Covers.length),(57,Ek t)]) (fun t w=>[(1055,MP 138 H1.kv I64 w)]) (fun t=>s.Covers.length - t) 0 k h ⟨(.sm O O),⟨fmQ O,ø⟩,rfl⟩ ?_
   clear h
   intro t w b9 k9 j9
   refine Jr fun h1=>(JLh (BL (decide ((t:Int) < (s.Covers.length:Int)))) (J8 O O O) O (G4 (h1 (Js fun h2=>Gj O (fun hb=>?_) (fun hb=>?_)))))
   ·
    have c0:=Jh hb
    obtain⟨c,k4,h3,h4,h⟩:=Hk b9 c0
    replace h:=Rh h0 h
    refine Gn (h2 (Js fun h5=>Gi (Jr fun h6=>(JLh (.dptr [I64 c.Bay,E5 c.Rows]) (H0 (f:=Gx.av) (xs:=s.Covers) (y:=c) O O O Zf h3 O) O (JLh (.agg [I64 c.Bay,E5 c.Rows]) (Gk H21 O O O) O (JLh (.ptr 1054 0) (Hg 1054 2 Gb5 O O) O (Hd (u:=.junk) (Gy (u:=.agg [I64 c.Bay,E5 c.Rows]) (ds:=[I64 c.Bay,E5 c.Rows]) J01 O O O O O O O O) (G4 (h6 (fzQ [(3,.mp 1055),(8,.dptr [I64 c.Bay,E5 c.Rows]),(55,Eb s.Covers),(56,Ek s.Covers.length),(57,Ek t)] [(1055,MP 138 H1.kv I64 w)] 1054 rfl rfl rfl ⟨fmQ O,ø⟩ rfl (Js fun h7=>?_)))))))))))
    refine Jr fun h8=>(JLh (.dptr [I64 c.Bay,E5 c.Rows]) (Gb G66 O O O) O (JLh (I64 c.Bay) (Ge G9 O O O) O (JLh (BL (decide (c.Bay < 0))) (J8 O O O) O (JLm (BL (decide (c.Bay < 0))) O (JLo (.dptr [I64 c.Bay,E5 c.Rows]) [] O .scf ø (fun hc=>Gb G66 O O O) O (JLo (I64 c.Bay) [65] O .scf ⟨Ua,ø⟩ (fun hc=>Ge G9 O O O) O (JLo (BL (decide (40≤c.Bay))) [66] O .scf ⟨Ua,ø⟩ (fun hc=>Gdd O O O) O (JLh (BL ((decide (c.Bay < 0))||(decide (40≤c.Bay)))) (G18 O O O O) O (JLm (BL ((decide (c.Bay < 0))||(decide (40≤c.Bay)))) O (JLo (.dptr [E5 c.Rows]) [] O .scf ø (fun hc=>Gb G65 O O O) O (JLo (E5 c.Rows) [70] O .scf ⟨Ua,ø⟩ (fun hc=>Ge Q8 O O O) O (JLo (Ek c.Rows.length) [71] O .scf ⟨Ua,ø⟩ (fun hc=>G24 (f:=I64) (xs:=c.Rows) Gv O O) O (JLo (BL (decide ((c.Rows.length:Int)=0))) [72] O .scf ⟨Ua,ø⟩ (fun hc=>Qn O O O) O ?_)))))))))))))
    refine JLh (BL (((decide (c.Bay < 0))||(decide (40≤c.Bay)))||(decide ((c.Rows.length:Int)=0)))) (G18 O O O O) O (G4 (h8 (JCc O h (fun h hb=>?_) (fun h hb=>?_))))
    ·
     refine Jr fun h9=>(JLm (BL false) O (G4 (h9 (Gw (⟨[BL false],[],ø,O,⟨⟨_,O,.conv (.same O)⟩,ø⟩,O,false,Eq.mpr (Kz h) hp,O⟩)))))
    ·
     refine Gn (h7 (Jr fun i0=>(JLh (.dptr [E5 c.Rows]) (Gb G65 O O O) O (JLh (E5 c.Rows) (Ge Q8 O O O) O (JLl Gv O O O fun i1=>(JLm (I64 0) O (G4 (i0 (Gi ?_)))))))))
     obtain⟨i2,c7,c8,c1,h⟩:=Hu h
     refine Hf (fun i (j:(Gu H1 Int))=>each i2 c7 (List.drop i c.Rows) i j=some p) (fun i j=>[(3,.mp 1055),(8,.dptr [I64 c.Bay,E5 c.Rows]),(55,Eb s.Covers),(56,Ek s.Covers.length),(57,Ek t),(76,E5 c.Rows),(77,Ek c.Rows.length),(78,Ek i)]) (fun i j=>[(1055,MP 138 H1.kv I64 j)]) (fun i=>c.Rows.length - i) 0 w h ⟨(.sm O O),⟨fmQ O,ø⟩,rfl⟩ ?_
     clear h
     intro i j a6 k5 i3
     refine Jr fun c9=>(JLh (BL (decide ((i:Int) < (c.Rows.length:Int)))) (J8 O O O) O (G4 (c9 (Js fun d0=>Gj O (fun hb=>?_) (fun hb=>?_)))))
     ·
      have a7:=Jh hb
      obtain⟨d,k0,d1,d2,h⟩:=Hk a6 a7
      replace h:=Rh c8 h
      refine Gn (d0 (Js fun d3=>Gi (Jr fun d4=>(JLm (Ek i) O (JLh (.dptr [I64 d]) (H0 (f:=I64) (xs:=c.Rows) (y:=d) O O O Gv d1 O) O (JLh (I64 d) (Ge G9 O O O) O (JLm (Ek i) O (JLm (I64 d) O (G4 (d4 (Js fun d5=>?_)))))))))))
      refine Jr fun d6=>(JLm (I64 d) O (JLh (BL (decide (d < 0))) (J8 O O O) O (JLm (BL (decide (d < 0))) O (JLo (I64 d) [] O .scf ø (fun hc=>G5 O O) O (JLo (BL (decide (30 < d))) [86] O .scf ⟨Ua,ø⟩ (fun hc=>G1b O O O) O (JLh (BL ((decide (d < 0))||(decide (30 < d)))) (G18 O O O O) O (JLm (BL ((decide (d < 0))||(decide (30 < d)))) O (JLo (Ek i) [] O .scf ø (fun hc=>G5 O O) O (JLo (BL (decide (0 < (i:Int)))) [90] O .scf ⟨Ua,ø⟩ (fun hc=>G1b O O O) O (JLo (BL (decide (0 < (i:Int)))) [91] O .scf ⟨Ua,ø⟩ (fun hc=>G5 O O) O (JLo (I64 d) [] O .optt ø (fun hc=>G5 O O) O (JLo (.dptr [E5 c.Rows]) [] O .optt ø (fun hc=>Gb G65 O O O) O (JLo (E5 c.Rows) [94] O .optt ⟨Ua,ø⟩ (fun hc=>Ge Q8 O O O) O ?_)))))))))))))
      refine JLo (Ek i) [] O .optt ø (fun hc=>G5 O O) O ?_
      obtain⟨i4,d7,h⟩:=Gg h
      refine JLo (I64 i4) [96] O .optt ⟨Ua,ø⟩ (fun hc=>Gf6 (H59 (H9 hc d7)) O O O) O ?_
      obtain⟨a0,d8,h⟩:=Gg h
      refine JLo (.dptr [I64 a0]) [95,97] O .optt ⟨Ua,Ua,ø⟩ (fun hc=>(match G05 (H9 hc d8) with | ⟨_,hm_,hy_⟩=>H0 (f:=I64) (xs:=c.Rows) (y:=a0) O O O Gv hy_ hm_)) O (JLo (I64 a0) [98] O .optt ⟨Ua,ø⟩ (fun hc=>Ge G9 O O O) O (JLo (BL (decide (d≤a0))) [93,99] O .optt ⟨Ua,Ua,ø⟩ (fun hc=>Gf7 O O O) O (Gc (u:=BL ((decide (0 < (i:Int)))&&(decide (d≤a0)))) [(92,BL (decide (0 < (i:Int)))),(100,_)] O O O .scf ⟨.all id,.part,ø⟩ (fun hc=>Rg O O O O) ?_)))
      refine JLh (BL (((decide (d < 0))||(decide (30 < d)))||((decide (0 < (i:Int)))&&(decide (d≤a0))))) (G18 O O O O) O (G4 (d6 (JCc O h (fun h hb=>?_) (fun h hb=>?_))))
      ·
       refine Jr fun d9=>(JLm (BL false) O (G4 (d9 (Gw (⟨[BL false],[],ø,O,⟨⟨_,O,.conv (.same O)⟩,ø⟩,O,false,Eq.mpr (Kz h) hp,O⟩)))))
      ·
       refine Gn (d5 (Rt (l':=[(3,.mp 1055),(8,.dptr [I64 c.Bay,E5 c.Rows]),(10,I64 d),(55,Eb s.Covers),(56,Ek s.Covers.length),(57,Ek t),(76,E5 c.Rows),(77,Ek c.Rows.length),(78,Ek i)]) (L':=[(1055,MP 138 H1.kv I64 j)]) ⟨(.sm O O),⟨fmQ O,ø⟩,rfl⟩ ?_))
       obtain⟨i5,a8,h⟩:=Gg h
       obtain⟨a1,a9,h⟩:=Hx h
       refine Qy [7,9] [0,0,0,0,0,0,0,0,1,0] [0,0,0,0,0,1,1,0,1,0] [[(1055,MP 138 H1.kv I64 j)],((1055,MI 138 H1.kv I64 j (H1.mk c.Bay d 2) 0)::[(1055,MP 138 H1.kv I64 j)]),((1055,MP 138 H1.kv I64 (Gu.put j (H1.mk c.Bay d 2) a1))::((1055,MI 138 H1.kv I64 j (H1.mk c.Bay d 2) 0)::[(1055,MP 138 H1.kv I64 j)]))] Q7 (by kernel_rfl) rfl rfl ?_
       refine Gq (u:=.mp 1055) O O ⟨Gr (G5 O O) O,ø⟩ (Gq (u:=.dptr [I64 c.Bay,E5 c.Rows]) O O ⟨Gr (Gb G66 O O O) O,ø⟩ (Gq (u:=I64 c.Bay) O O ⟨Gr (Ge G9 O O O) O,ø⟩ (Gq (u:=I64 d) O O ⟨Gr (G5 O O) O,ø⟩ (Gq (u:=.agg [I64 c.Bay,I64 d,I64 2]) O O ⟨Gr (Hab (cs:=[I64 c.Bay,I64 d,I64 2]) [E0,E0,E0] J59 Hfe O O) O,ø⟩ (Gq (u:=I64 i5) O O ⟨Gr (((Kz a8) ▸ Gdc (av:=I64) (m:=j) (a:=(H1.mk c.Bay d 2)) 0 E0 O O O O Hdd G50 H1a O)) O,Gr (((Kz a8) ▸ J91 (av:=I64) (m:=j) (a:=(H1.mk c.Bay d 2)) 0 E0 O O O O Hdd G50 H1a O)) O,ø⟩ (Gq (u:=I64 a1) O O ⟨Gr (Ht a9 O O O) O,Gr (Ht a9 O O O) O,ø⟩ (D_w (u:=.tup [.junk,I64 (Zj (Gu.l j) (H1.mk c.Bay d 2):Int)]) O O O O (Gr (J21 (m:=j) (a:=(H1.mk c.Bay d 2)) 0 E0 O O O O Hdd G50 H1a O) O) (Gq (u:=I64 (Zj (Gu.l j) (H1.mk c.Bay d 2):Int)) O O ⟨Gr (Hp O O O) O,ø⟩ (J2d (u:=.junk) O O O O (Gr (H8b (m:=j) (a:=(H1.mk c.Bay d 2)) (v:=a1) 0 O O O O O O) O) (Zs ?_))))))))))
       refine d3 (G2 (JLh (I64 ((i+1:Nat):Int)) (Ht (H7 a7 i1) O O O) O (JLm (I64 ((i+1:Nat):Int)) O (G4 (i3 _ _ (i+1) (Gu.put j (H1.mk c.Bay d 2) a1) (app1 d2 h) (by omega) ⟨(.sm O O),⟨fmQ O,ø⟩,rfl⟩)))))
     ·
      have h:=app1 c1 (Hm a6 (H6 hb))
      refine Hj (h5 (G2 (JLh (I64 ((t+1:Nat):Int)) (Ht (H7 c0 g8) O O O) O (JLm (I64 ((t+1:Nat):Int)) O (G4 (j9 _ _ (t+1) j (app1 h4 h) (by omega) ⟨(.sm O O),⟨fmQ O,ø⟩,rfl⟩))))))
   ·
    have h:=app1 c6 (Hm b9 (H6 hb))
    refine Hj (g6 (Js fun e0=>Jr fun e1=>(JLm (.mp 1055) O (JLh (.it 1056) (J90 1056 (m:=w) O O O O G50) O (G4 (e1 (Gi ?_)))))))
    obtain⟨i6,e2,e3,c2,h⟩:=J74 h
    refine J8a (Gu.size w) (fun x (a2:Unit)=>MInv i6 e2 (Gu.l w) x a2) (fun x a2=>[(115,.it 1056)]) (fun x a2=>[(1055,MP 138 H1.kv I64 w),(1056,.iter (.mp 1055) (Gu.size w) x)]) () (MInv.start h hp) ⟨⟨.same O,ø⟩,⟨⟨_,O,.map⟩,⟨_,O,.iter O⟩,ø⟩,O⟩ ?_
    clear h hp
    intro x a2 b0 k6 i7
    refine Jr fun b1=>H32 O O O (Q0c (m:=w) O O O O) ?_
    intro u_ L_ hn_
    rcases hn_ with ⟨c3,z,a3,b2,rfl,rfl⟩ | ⟨e4,rfl,rfl⟩
    ·
     obtain⟨k7,h,b3,b4⟩:=b0.step a3 b2
     replace h:=Hef e3 h
     refine JLh (BL true) (Hp O O O) O (G4 (b1 (Js fun e5=>J8b O (Gn (e5 (Gi (Jr fun e6=>(JLh (.tup [.agg (H1.cs z.1),I64 z.2]) (J94 (kv:=H1.kv) (av:=I64) (m:=w) (q:=c3) (seen:=x) (e:=z) O O O O a3) O (JLh (I64 z.2) (Hp O O O) O (JLm (I64 z.2) O (G4 (e6 (Jr fun e7=>(JLm (I64 z.2) O (JLh (BL (decide (1 < z.2))) (G1b O O O) O (G4 (e7 (JCc O h (fun h hb=>?_) (fun h hb=>?_)))))))))))))))))))
     ·
      refine Jr fun e8=>(JLm (BL false) O (G4 (e8 (Gw ?_))))
      obtain⟨y_,hy_,hl_⟩:=R7d h
      exact⟨[BL false],[],ø,O,⟨⟨_,O,.conv (.same O)⟩,ø⟩,O,false,Eq.mpr (Kz hl_) (b3 y_ hy_),O⟩
     ·
      refine Gn (i7 _ _ (x++[c3]) () (b4 _ (Kz h).symm) (Hdc (Kx a3).1 b2) ⟨⟨.same O,ø⟩,⟨⟨_,O,.map⟩,⟨_,O,.iter O⟩,ø⟩,O⟩)
    ·
     obtain⟨p_,h,hp⟩:=b0.done e4
     replace h:=app1 c2 h
     refine JLh (BL false) (Hp O O O) O (G4 (b1 (Js fun k1=>J8c O (Hj (e0 (Jr fun e9=>(JLm (BL true) O (G4 (e9 (Gw (⟨[BL true],[],ø,O,⟨⟨_,O,.conv (.same O)⟩,ø⟩,O,true,Eq.mpr (Kz h) hp,O⟩)))))))))))
theorem J86 (S_:(Gf)→Option Bool) (hS_:∀ s r,S_ s=some r→∃ p:Prop,G77 s (fun r_=>r_=r)=some p∧p) (s:Gf) (r:Bool) (h:S_ s=some r):Pure Em 20 [.agg (Gf.cs s)] (·=BL r):=by
 obtain⟨p,a,b⟩:=hS_ s r h
 exact(J85 s _ p a b).monoP (fun av hh=>by obtain⟨r_,rfl,ha⟩:=hh; exact ha)

def Zz (size:Int):Option (List Int):=
 bif decide (size=40) then
 (some [0])
 else
 (bif decide (size=20) then
  (some [1,2])
  else
  (some []))
theorem H3a (size:Int) (r:(List Int)) (h:Zz size=some r):Pure Em 73 [U8 size] (·=Ed r):=by
 unfold Zz at h
 refine H5 [.tmp 2] Tryz.func73 O O (Jr fun a=>(JLh (Ed ([]:List Int)) (Q6 1 O O) O (G4 (a (Js fun b=>Jr fun c=>(JLm (U8 size) O (G4 (c (Gi (Jr fun d=>(JLh (BL (decide (size=40))) (Qn O O O) O (JLm (BL (decide (size=40))) O (G4 (d (JCc O h (fun h hb=>?_) (fun h hb=>?_))))))))))))))))
 ·
  refine Jr fun e=>(JLh (Ed [0]) (He (xs:=[U8 0]) O ⟨O,O,ø⟩ Ze J3a O O O O) O (JLm (Ed [0]) O (G4 (e (Gw (fin1 (fun r:(List Int)=>(Ed r:AV)) h))))))
 ·
  refine Jr fun f=>(JLh (BL (decide (size=20))) (Qn O O O) O (JLm (BL (decide (size=20))) O (G4 (f (JCc O h (fun h hb=>?_) (fun h hb=>?_))))))
  ·
   refine Jr fun g=>(JLh (Ed [1,2]) (He (xs:=[U8 1,U8 2]) O ⟨O,O,O,O,ø⟩ Ze J3a O O O O) O (JLm (Ed [1,2]) O (G4 (g (Gw (fin1 (fun r:(List Int)=>(Ed r:AV)) h))))))
  ·
   refine Gn (b (Jr fun i=>(JLh (Ed ([]:List Int)) (Q6 1 O O) O (G4 (i (Gw (fin1 (fun r:(List Int)=>(Ed r:AV)) h)))))))

def G73 (j:Gf) (k:Int) (ys_:List Slot):Option Unit:=
 each (fun e l (b:Nat) f=>
  need (decide ((max e.Tiers 0)≤9223372036854775807)) <|
  upto (fun m (c:Nat) g=>
   bnd (Zz k) fun h=>
   each (fun i n (a:Nat) d=>
    need (decide (ys_[a]? = some (Slot.mk (l:Int) (m:Int) i))) <|
    d (a+1))
   (fun(a:Nat)=>
    g a) h 0 c)
  (fun(c:Nat)=>
   f c) (max e.Tiers 0).toNat 0 b)
 (fun(b:Nat)=>
  need (decide (b=ys_.length)) (some ())) j.Columns 0 0
theorem Hf3 (e:Gf) (m:Int) (ys_:List Slot) (q_:Unit) (h:G73 e m ys_=some q_):Iter Em 72 [.dptr (Gf.cs e),.dptr [U8 m]] (ys_.map (fun y:Slot=>[.agg [I64 y.G6,I64 y.Tier,U8 y.Half]])):=by
 unfold G73 at h
 refine Qe9 Tryz.func72 O O ?_
 intro E hE hys
 refine Q1 (fun K1 b9=>Je (Hi (u:=Ef e) hE (Gb Ho O O O) ?_ O O O O))
 refine Hi (u:=E7 e.Columns) hE (Ge J2 O O O) ?_ O O O O
 refine H14 hE (f:=G6.av) (xs:=e.Columns) Hr O O (fun w=>?_) O O O
 refine Hi (u:=I64 0) hE (G5 O O) ?_ O O O O
 refine Jz ?_
 refine b9 _ _ _ (Zq ?_)
 obtain⟨b2,c0,c1,z,h⟩:=Hu h
 refine H13 (fun a (n:Nat)=>each b2 c0 (List.drop a e.Columns) a n=some q_) (fun a n=>[(0,.sc (.func (.yield E.lp) #[] #[])),(2,.dptr [U8 m]),(10,E7 e.Columns),(11,Ek e.Columns.length),(12,Ek a)]) (fun a n=>[]) (fun a n=>n) (fun a=>e.Columns.length - a) 0 0 h ⟨(.sm O O),ø,rfl⟩ rfl ?_
 clear h
 intro a n r K2 e2
 refine Q1 (fun K3 c2=>Je (Hi (u:=BL (decide ((a:Int) < (e.Columns.length:Int)))) hE (J8 O O O) ?_ O O O O))
 refine Jz ?_
 refine c2 _ _ _ (Q1 (fun K4 c3=>G9b O (fun hb=>?_) (fun hb=>?_)))
 ·
  have s:=Jh hb
  obtain⟨g,e1,c4,c5,h⟩:=Hk r s
  replace h:=Rh c1 h
  refine G7a (c3 _ _ _ (Q1 (fun K5 c6=>Zq (Q1 (fun K6 c7=>Je (Hi (u:=Ek a) hE (G5 O O) ?_ O O O O))))))
  refine Hi (u:=Eh g) hE (H0 (f:=G6.av) (xs:=e.Columns) (y:=g) O O O Hr c4 O) ?_ O O O O
  refine Hi (u:=.agg (G6.cs g)) hE (Gk G37 O O O) ?_ O O O O
  refine Hi (u:=.ptr 1143 0) hE (Hg 1143 12 Zd O O) ?_ O O O O
  refine Hi (u:=Ek a) hE (G7 O O) ?_ O O O O
  refine Q07 (u:=.junk) hE (Gy (u:=.agg (G6.cs g)) (ds:=(G6.cs g)) G81 O O O O O O O O) ?_ O O O
  refine Jz ?_
  refine c7 _ _ _ (Q1 (fun K7 c8=>Je (Hi (u:=.ptr 1143 3) hE (J5 Rj O O) ?_ O O O O)))
  refine Hi (u:=I64 g.Tiers) hE (Jg G9 O O O O) ?_ O O O O
  refine Hi (u:=I64 (max g.Tiers 0)) hE (Y0a O O O) ?_ O O O O
  refine Hi (u:=I64 0) hE (G5 O O) ?_ O O O O
  refine Jz ?_
  refine c8 _ _ _ (Zq ?_)
  obtain⟨c9,h⟩:=Hw h
  obtain⟨b8,d0,d1,a0,h⟩:=G90 h
  refine H13 (fun c (l:Nat)=>upto b8 d0 ((max g.Tiers 0).toNat - c) c l=some q_) (fun c l=>[(0,.sc (.func (.yield E.lp) #[] #[])),(2,.dptr [U8 m]),(4,Ek a),(10,E7 e.Columns),(11,Ek e.Columns.length),(12,Ek a),(19,I64 (max g.Tiers 0)),(20,Ek c)]) (fun c l=>[(1143,.box 41 (G6.cs g))]) (fun c l=>l) (fun c=>(max g.Tiers 0).toNat - c) 0 n h ⟨(.sm O O),⟨fbQ O (.sm O O),ø⟩,rfl⟩ rfl ?_
  clear h
  intro c l t K8 e8
  refine Q1 (fun K9 d2=>Je (Hi (u:=BL (decide ((c:Int) < (max g.Tiers 0)))) hE (J8 O O O) ?_ O O O O))
  refine Jz ?_
  refine d2 _ _ _ (Q1 (fun e3 a1=>G9b O (fun hb=>?_) (fun hb=>?_)))
  ·
   have v:=G46 hb
   obtain⟨e4,d3,h⟩:=G41 t v
   replace h:=Hef d1 h
   refine G7a (a1 _ _ _ (Q1 (fun e5 a2=>Zq (Q1 (fun e6 a3=>Je (Hi (u:=Ek c) hE (G5 O O) ?_ O O O O))))))
   refine Hi (u:=Ek c) hE (G7 O O) ?_ O O O O
   refine Jz ?_
   refine a3 _ _ _ (Q1 (fun e7 a4=>Je (Hi (u:=U8 m) hE (Ge Hz O O O) ?_ O O O O)))
   obtain⟨i,a5,h⟩:=Gg h
   refine Hi (u:=Ed i) hE (H2 O (H3a m i a5) J4e ⟨O,O,ø⟩) ?_ O O O O
   refine H14 hE (f:=U8) (xs:=i) Ze O O (fun a6=>?_) O O O
   refine Hi (u:=I64 0) hE (G5 O O) ?_ O O O O
   refine Jz ?_
   refine a4 _ _ _ (Zq ?_)
   obtain⟨d4,a7,a8,q,h⟩:=Hu h
   refine H13 (fun d (k:Nat)=>each d4 a7 (List.drop d i) d k=some q_) (fun d k=>[(0,.sc (.func (.yield E.lp) #[] #[])),(2,.dptr [U8 m]),(4,Ek a),(6,Ek c),(10,E7 e.Columns),(11,Ek e.Columns.length),(12,Ek a),(19,I64 (max g.Tiers 0)),(20,Ek c),(24,Ed i),(25,Ek i.length),(26,Ek d)]) (fun d k=>[(1143,.box 41 (G6.cs g))]) (fun d k=>k) (fun d=>i.length - d) 0 l h ⟨(.sm O O),⟨fbQ O (.sm O O),ø⟩,rfl⟩ rfl ?_
   clear h
   intro d k o e9 d5
   refine Q1 (fun f0 a9=>Je (Hi (u:=BL (decide ((d:Int) < (i.length:Int)))) hE (J8 O O O) ?_ O O O O))
   refine Jz ?_
   refine a9 _ _ _ (Q1 (fun f1 b0=>G9b O (fun hb=>?_) (fun hb=>?_)))
   ·
    have p:=Jh hb
    obtain⟨j,e0,b1,b3,h⟩:=Hk o p
    replace h:=Rh a8 h
    refine G7a (b0 _ _ _ (Q1 (fun f2 b4=>Zq (Q1 (fun f3 b5=>Je (Hi (u:=.dptr [U8 j]) hE (H0 (f:=U8) (xs:=i) (y:=j) O O O Ze b1 O) ?_ O O O O))))))
    refine Hi (u:=U8 j) hE (Ge Hz O O O) ?_ O O O O
    refine Hi (u:=U8 j) hE (G7 O O) ?_ O O O O
    refine Jz ?_
    refine b5 _ _ _ (Q1 (fun f4 b6=>Je (Hi (u:=.sc (.func (.yield E.lp) #[] #[])) hE (G5 O O) ?_ O O O O)))
    refine Hi (u:=Ek a) hE (G5 O O) ?_ O O O O
    refine Hi (u:=Ek c) hE (G5 O O) ?_ O O O O
    refine Hi (u:=U8 j) hE (G5 O O) ?_ O O O O
    refine Hi (u:=.agg [Ek a,Ek c,U8 j]) hE (J9 (cs:=[Ek a,Ek c,U8 j]) [(0,1),(1,1),(2,1)] [I64 0,I64 0,U8 0] [E0,E0,.int .u8 0] G64 G80 (zzQ O) O O) ?_ O O O O
    obtain⟨b7,h⟩:=Hw h
    refine Jdb (us:=[.agg [Ek a,Ek c,U8 j]]) hE O O ⟨.inl O,O,ø⟩ (J39 (f:=(fun y:Slot=>[.agg [I64 y.G6,I64 y.Tier,U8 y.Half]])) (x:=(Slot.mk (a:Int) (c:Int) j)) hys b7) ?_ O O O
    refine Hi (u:=BL false) hE (G03 (b:=true) O O) ?_ O O O O
    refine Jz ?_
    refine b6 _ _ _ (J89 O (G7a (b4 _ _ _ (Je (Hi (u:=I64 ((d+1:Nat):Int)) hE (Ht (H7 p a6) O O O) ?_ O O O O)))))
    refine Hi (u:=I64 ((d+1:Nat):Int)) hE (G5 O O) ?_ O O O O
    refine Jz ?_
    exact d5 _ _ (d+1) (k+1) _ (app1 b3 h) (by omega) ⟨(.sm O O),⟨fbQ O (.sm O O),ø⟩,rfl⟩ rfl
   ·
    have h:=app1 q (Hm o (H6 hb))
    refine H33 (a2 _ _ _ (Je (Hi (u:=I64 ((c+1:Nat):Int)) hE (Ht (H7 v (Z8 c9)) O O O) ?_ O O O O)))
    refine Hi (u:=I64 ((c+1:Nat):Int)) hE (G5 O O) ?_ O O O O
    refine Jz ?_
    exact e8 _ _ (c+1) k _ (app1 d3 h) (by omega) ⟨(.sm O O),⟨fbQ O (.sm O O),ø⟩,rfl⟩ rfl
  ·
   have h:=app1 a0 (G42 t (Y8 hb))
   refine H33 (c6 _ _ _ (Je (Hi (u:=I64 ((a+1:Nat):Int)) hE (Ht (H7 s w) O O O) ?_ O O O O)))
   refine Hi (u:=I64 ((a+1:Nat):Int)) hE (G5 O O) ?_ O O O O
   refine Jz ?_
   exact e2 _ _ (a+1) l _ (app1 c5 h) (by omega) ⟨(.sm O O),ø,rfl⟩ rfl
 ·
  have h:=app1 z (Hm r (H6 hb))
  refine H33 (J2e (Hw h).1)
theorem Hf4 (S_:(Gf)→(Int)→Option (List Slot)) (hS_:∀ a b r,S_ a b=some r→G73 a b r=some ()) (a:Gf) (b:Int) (r:List Slot) (h:S_ a b=some r):Iter Em 72 [.dptr (Gf.cs a),.dptr [U8 b]] (r.map (fun y:Slot=>[.agg [I64 y.G6,I64 y.Tier,U8 y.Half]])):=Hf3 a b r () (hS_ a b r h)

def Za (x:Int):Option Bool:=
 some (decide (x≠x))
theorem Gf3 (x:Int) (r:Bool) (h:Za x=some r):Pure Em 79 [I64 x] (·=BL r):=by
 unfold Za at h
 refine H5 [.tmp 2] Tryz.func79 O O (Jr fun a=>(JLm (BL false) O (G4 (a (Jr fun b=>(JLm (I64 x) O (JLm (I64 x) O (JLh (BL (decide (x≠x))) (H15 O O O) O (JLm (BL (decide (x≠x))) O (G4 (b (Gw (fin1 BL h)))))))))))))

def Qi (x:Int) (y:Int):Option Int:=
 bnd (Za x) fun b=>
 bnd (Za y) fun a=>
 bif b then
 (bif a then
  (some 0)
  else
  (some (-1)))
 else
 (bif a then
  (some 1)
  else
  (bif decide (x < y) then
   (some (-1))
   else
   (bif decide (y < x) then
    (some 1)
    else
    (some 0))))
theorem Yp (x:Int) (y:Int) (r:Int) (h:Qi x y=some r):Pure Em 43 [I64 x,I64 y] (·=I64 r):=by
 unfold Qi at h
 refine H5 [.tmp 4] Tryz.func43 O O (Jr fun p=>(JLm (I64 0) O (G4 (p (Jr fun q=>(JLm (I64 x) O ?_))))))
 obtain⟨b,s,h⟩:=Gg h
 refine JLh (BL b) (H2 O (Gf3 x b s) J4b ⟨O,O,ø⟩) O (JLm (BL b) O (G4 (q (Jr fun t=>(JLm (I64 y) O ?_)))))
 obtain⟨a,u,h⟩:=Gg h
 refine JLh (BL a) (H2 O (Gf3 y a u) J4b ⟨O,O,ø⟩) O (JLm (BL a) O (G4 (t (Js fun v=>Jr fun w=>(JLm (BL b) O (G4 (w (JCc O h (fun h hb=>?_) (fun h hb=>?_)))))))))
 ·
  refine Js fun z=>Jr fun a0=>(JLm (BL a) O (G4 (a0 (JCc O h (fun h hb=>?_) (fun h hb=>?_)))))
  ·
   refine Jr fun c=>(JLm (I64 0) O (G4 (c (Gw (fin1 I64 h)))))
  ·
   refine Gn (z (Jr fun d=>(JLm (I64 (-1)) O (G4 (d (Gw (fin1 I64 h)))))))
 ·
  refine Gn (v (Js fun e=>Jr fun f=>(JLm (BL a) O (G4 (f (JCc O h (fun h hb=>?_) (fun h hb=>?_)))))))
  ·
   refine Jr fun g=>(JLm (I64 1) O (G4 (g (Gw (fin1 I64 h)))))
  ·
   refine Gn (e (Js fun i=>Jr fun j=>(JLm (I64 x) O (JLm (I64 y) O (JLh (BL (decide (x < y))) (J8 O O O) O (G4 (j (JCc O h (fun h hb=>?_) (fun h hb=>?_)))))))))
   ·
    refine Jr fun k=>(JLm (I64 (-1)) O (G4 (k (Gw (fin1 I64 h)))))
   ·
    refine Gn (i (Js fun l=>Jr fun m=>(JLm (I64 x) O (JLm (I64 y) O (JLh (BL (decide (y < x))) (G1b O O O) O (G4 (m (JCc O h (fun h hb=>?_) (fun h hb=>?_)))))))))
    ·
     refine Jr fun n=>(JLm (I64 1) O (G4 (n (Gw (fin1 I64 h)))))
    ·
     refine Gn (l (Jr fun o=>(JLm (I64 0) O (G4 (o (Gw (fin1 I64 h)))))))

def G3e (vals:List Int):Option Int:=
 each (fun a d (c:Unit) b=>
  bif decide (a≠0) then
  (some a)
  else
  (b ()))
 (fun(c:Unit)=>
  some 0) vals 0 ()
theorem H61 (vals:List Int) (r:Int) (h:G3e vals=some r):Pure Em 42 [E5 vals] (·=I64 r):=by
 unfold G3e at h
 refine H5 [.tmp 2] Tryz.func42 O O (Jr fun u=>(JLm (I64 0) O (G4 (u (Jr fun v=>(JLm (I64 0) O (G4 (v (Js fun w=>Jr fun x=>(JLm (E5 vals) O (JLl Gv O O O fun z=>(JLm (I64 0) O (G4 (x (Gi ?_)))))))))))))))
 obtain⟨a0,i,j,g,h⟩:=Hu h
 refine Hf (fun a (c:Unit)=>each a0 i (List.drop a vals) a c=some r) (fun a c=>[(3,I64 0),(6,E5 vals),(7,Ek vals.length),(8,Ek a)]) (fun a c=>[]) (fun a=>vals.length - a) 0 () h ⟨(.sm O O),ø,rfl⟩ ?_
 clear h
 intro a c d a3 a1
 refine Jr fun k=>(JLh (BL (decide ((a:Int) < (vals.length:Int)))) (J8 O O O) O (G4 (k (Js fun l=>Gj O (fun hb=>?_) (fun hb=>?_)))))
 ·
  have e:=Jh hb
  obtain⟨b,a2,m,n,h⟩:=Hk d e
  replace h:=Rh j h
  refine Gn (l (Js fun o=>Gi (Jr fun p=>(JLh (.dptr [I64 b]) (H0 (f:=I64) (xs:=vals) (y:=b) O O O Gv m O) O (JLh (I64 b) (Ge G9 O O O) O (JLm (I64 b) O (G4 (p (Jr fun q=>(JLm (I64 b) O (JLm (I64 0) O (JLh (BL (decide (b≠0))) (H15 O O O) O (G4 (q (JCc O h (fun h hb=>?_) (fun h hb=>?_))))))))))))))))
  ·
   refine Jr fun s=>(JLm (I64 b) O (JLm (I64 b) O (G4 (s (Gw (fin1 I64 h))))))
  ·
   refine Gn (o (G2 (JLh (I64 ((a+1:Nat):Int)) (Ht (H7 e z) O O O) O (JLm (I64 ((a+1:Nat):Int)) O (G4 (a1 _ _ (a+1) () (app1 n h) (by omega) ⟨(.sm O O),ø,rfl⟩))))))
 ·
  have h:=app1 g (Hm d (H6 hb))
  refine Hj (w (Jr fun t=>(JLm (I64 0) O (JLm (I64 0) O (G4 (t (Gw (fin1 I64 h))))))))

end
end Go.Proofs.YtibhpogonkdiaaaGreat
