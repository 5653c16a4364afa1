/- Walks of functions. -/
import Derived.Test.YtibhpogonkdiaaaGreatSortLay
import Derived.Test.YtibhpogonkdiaaaGreatIterJ
import Derived.Test.YtibhpogonkdiaaaGreatRangeI
import Derived.Test.YtibhpogonkdiaaaGreatGiv
import Derived.Test.YtibhpogonkdiaaaGreatIterJ
import Derived.Test.YtibhpogonkdiaaaGreatGiv
set_option maxRecDepth 100000
set_option maxHeartbeats 1000000
set_option linter.unusedVariables false
set_option linter.unusedSimpArgs false
namespace Go.Proofs.YtibhpogonkdiaaaGreat
open Go.RowKit
noncomputable section
abbrev Es:=Tryz.prog
structure J0 where
 n:Int
 low:Int
 high:Int
 deriving DecidableEq,Inhabited
def J0.cs (x:J0):AG:=[I64 x.n,I64 x.low,I64 x.high]
def J0.av (x:J0):AV:=.agg x.cs
structure G7 where
 Bay:Int
 Row:Int
 Deck:Bool
 Tiers:Int
 Height:Int
 BN:Int
 BM:Int
 Lash:Int
 BO:AD
 X:Int
 Y:Int
 Z:Int
 deriving DecidableEq,Inhabited
def G7.cs (x:G7):AG:=[I64 x.Bay,I64 x.Row,BL x.Deck,I64 x.Tiers,I64 x.Height,I64 x.BN,I64 x.BM,I64 x.Lash,E5 x.BO,I64 x.X,I64 x.Y,I64 x.Z]
def G7.av (x:G7):AV:=.agg x.cs
abbrev En (x:G7):AV:=.AC (G7.cs x)
abbrev E7:=LS 12 G7.av
structure Gy where
 Bay:Int
 Rows:AD
 deriving DecidableEq,Inhabited
def Gy.cs (x:Gy):AG:=[I64 x.Bay,E5 x.Rows]
def Gy.av (x:Gy):AV:=.agg x.cs
abbrev Eb:=LS 2 Gy.av
structure Light where
 Kilos:Int
 X:Int
 Y:Int
 Z:Int
 deriving DecidableEq,Inhabited
def Light.cs (x:Light):AG:=[I64 x.Kilos,I64 x.X,I64 x.Y,I64 x.Z]
def Light.av (x:Light):AV:=.agg x.cs
structure Row where
 Draught:Int
 Kilos:Int
 Buoy:Int
 Metacentre:Int
 J21:Int
 deriving DecidableEq,Inhabited
def Row.cs (x:Row):AG:=[I64 x.Draught,I64 x.Kilos,I64 x.Buoy,I64 x.Metacentre,I64 x.J21]
def Row.av (x:Row):AV:=.agg x.cs
abbrev E8:=LS 5 Row.av
structure Frame where
 X:Int
 Light:Int
 Share:Int
 Shear:Int
 Bend:Int
 deriving DecidableEq,Inhabited
def Frame.cs (x:Frame):AG:=[I64 x.X,I64 x.Light,I64 x.Share,I64 x.Shear,I64 x.Bend]
def Frame.av (x:Frame):AV:=.agg x.cs
abbrev E9:=LS 5 Frame.av
structure J2 where
 Kilos:Int
 X:Int
 Y:Int
 Z:Int
 Surface:Int
 Steps:AD
 deriving DecidableEq,Inhabited
def J2.cs (x:J2):AG:=[I64 x.Kilos,I64 x.X,I64 x.Y,I64 x.Z,I64 x.Surface,E5 x.Steps]
def J2.av (x:J2):AV:=.agg x.cs
abbrev Ea:=LS 6 J2.av
structure Gk where
 BF:Int
 Trim:Int
 List_:Int
 BG:Int
 deriving DecidableEq,Inhabited
def Gk.cs (x:Gk):AG:=[I64 x.BF,I64 x.Trim,I64 x.List_,I64 x.BG]
def Gk.av (x:Gk):AV:=.agg x.cs
structure Gc where
 AB:List G7
 AR:List Gy
 Light:Light
 Rows:List Row
 Frames:List Frame
 BQ:List J2
 Gk:Gk
 deriving DecidableEq,Inhabited
def Gc.cs (x:Gc):AG:=[E7 x.AB,Eb x.AR,I64 x.Light.Kilos,I64 x.Light.X,I64 x.Light.Y,I64 x.Light.Z,E8 x.Rows,E9 x.Frames,Ea x.BQ,I64 x.Gk.BF,I64 x.Gk.Trim,I64 x.Gk.List_,I64 x.Gk.BG]
def Gc.av (x:Gc):AV:=.agg x.cs
abbrev Ei (x:Gc):AV:=.AC (Gc.cs x)
structure Hk where
 e0:Int
 e1:Int
 e2:Int
 deriving DecidableEq,Inhabited
def Hk.cs (x:Hk):AG:=[I64 x.e0,I64 x.e1,I64 x.e2]
def Hk.av (x:Hk):AV:=.agg x.cs
def Hk.ks (x:Hk):AM:=[.int .i64 x.e0,.int .i64 x.e1,.int .i64 x.e2]
def Hk.kv (x:Hk):Value:=.agg x.ks.toArray
structure Slot where
 G7:Int
 AL:Int
 Half:Int
 deriving DecidableEq,Inhabited
def Slot.cs (x:Slot):AG:=[I64 x.G7,I64 x.AL,U8 x.Half]
def Slot.av (x:Slot):AV:=.agg x.cs
abbrev Eo (x:Slot):AV:=.AC (Slot.cs x)
abbrev Ed:=LS 3 Slot.av
structure G1 where
 Box:Int
 Slot:Slot
 deriving DecidableEq,Inhabited
abbrev AE:=List G1
def G1.cs (x:G1):AG:=[I64 x.Box,I64 x.Slot.G7,I64 x.Slot.AL,U8 x.Slot.Half]
def G1.av (x:G1):AV:=.agg x.cs
abbrev Ej (x:G1):AV:=.AC (G1.cs x)
abbrev E4:=LS 4 G1.av
structure cA where
 AO:List AE
 BK:List AD
 deriving DecidableEq,Inhabited
def cA.cs (x:cA):AG:=[LS 1 (E4) x.AO,LS 1 (E5) x.BK]
def cA.av (x:cA):AV:=.agg x.cs
structure G9 where
 Load:Int
 AF:Int
 deriving DecidableEq,Inhabited
def G9.cs (x:G9):AG:=[I64 x.Load,I64 x.AF]
def G9.av (x:G9):AV:=.agg x.cs
abbrev Ee:=LS 2 G9.av
structure G3 where
 G9:G9
 Whole:Int
 Half:Int
 deriving DecidableEq,Inhabited
abbrev AI:=List G3
def G3.cs (x:G3):AG:=[I64 x.G9.Load,I64 x.G9.AF,I64 x.Whole,I64 x.Half]
def G3.av (x:G3):AV:=.agg x.cs
abbrev Em (x:G3):AV:=.AC (G3.cs x)
abbrev Ec:=LS 4 G3.av
structure Box where
 ID:Int
 Number:ByteArray
 Size:Int
 High:Bool
 Kilos:Int
 Load:Int
 AF:Int
 Class:Int
 Reefer:Bool
 deriving DecidableEq,Inhabited
abbrev AH:=List Box
def Box.cs (x:Box):AG:=[I64 x.ID,ST x.Number,U8 x.Size,BL x.High,I64 x.Kilos,I64 x.Load,I64 x.AF,U8 x.Class,BL x.Reefer]
def Box.av (x:Box):AV:=.agg x.cs
abbrev Ek (x:Box):AV:=.AC (Box.cs x)
abbrev E6:=LS 9 Box.av
def G9.ks (x:G9):AM:=[.int .i64 x.Load,.int .i64 x.AF]
def G9.kv (x:G9):Value:=.agg x.ks.toArray
def G3.vs (x:G3):AM:=[.int .i64 x.G9.Load,.int .i64 x.G9.AF,.int .i64 x.Whole,.int .i64 x.Half]
namespace XAF
theorem Jac (a b:G9):wV Es 4 126 [.int .i64 a.Load,.int .i64 a.AF] [.int .i64 b.Load,.int .i64 b.AF]=some (decide (a=b)):=by
 refine(show _=some ((a.Load==b.Load)&&((a.AF==b.AF)&&true)) by kernel_rfl).trans (congrArg some ?_);rw [Bool.eq_iff_iff];simp only [Sq,beq_iff_eq,Sr,Bool.and_true];constructor
 ·intro h; obtain⟨_,_⟩:=a; obtain⟨_,_⟩:=b; simp_all
 ·intro h; subst h; simp
theorem Q41 (a b:Hk):wV Es 4 139 [.int .i64 a.e0,.int .i64 a.e1,.int .i64 a.e2] [.int .i64 b.e0,.int .i64 b.e1,.int .i64 b.e2]=some (decide (a=b)):=by
 refine(show _=some ((a.e0==b.e0)&&((a.e1==b.e1)&&((a.e2==b.e2)&&true))) by kernel_rfl).trans (congrArg some ?_);rw [Bool.eq_iff_iff];simp only [Sq,beq_iff_eq,Sr,Bool.and_true];constructor
 ·intro h; obtain⟨_,_,_⟩:=a; obtain⟨_,_,_⟩:=b; simp_all
 ·intro h; subst h; simp
theorem aM:mH Es 126 2=true:=zZ
theorem Ro:mH Es 128 4=true:=zZ
theorem uI:mH Es 137 2=true:=zZ
theorem Hf1:mH Es 185 3=true:=zZ
theorem aC:mH Es 37 9=true:=zZ
theorem iN:mH Es 41 12=true:=zZ
theorem G47:Q0b Es 139 3 1=true:=zZ
theorem G41:Hh Es 42=true:=zZ
theorem pY:Hh Es 43=true:=zZ
theorem Hd4:Hh Es 56=true:=zZ
theorem G3b:Hh Es 73=true:=zZ
theorem G38:Hh Es 79=true:=zZ
theorem G36:Hh Es 86=true:=zZ
theorem G35:Hh Es 87=true:=zZ
theorem Hc4:Hh Es 88=true:=zZ
theorem G33:Hh Es 97=true:=zZ
theorem kP:Y9 Es 128 4 32=true:=zZ
theorem bF:Qc Es 126 0 0=true:=zZ
theorem bE:Qc Es 126 1 1=true:=zZ
theorem Qb:Qc Es 128 0 0=true:=zZ
theorem bD:Qc Es 128 1 2=true:=zZ
theorem bC:Qc Es 128 2 3=true:=zZ
theorem lI:Qc Es 137 0 0=true:=zZ
theorem lH:Qc Es 137 1 1=true:=zZ
theorem wC:Qc Es 185 0 0=true:=zZ
theorem G2c:Qc Es 185 1 1=true:=zZ
theorem G2b:Qc Es 185 2 2=true:=zZ
theorem Hm:Qc Es 34 0 0=true:=zZ
theorem dW:Qc Es 34 1 1=true:=zZ
theorem aR:Qc Es 37 2 2=true:=zZ
theorem Yz:Qc Es 37 5 5=true:=zZ
theorem Zn:Qc Es 37 6 6=true:=zZ
theorem gB:Qc Es 41 0 0=true:=zZ
theorem gA:Qc Es 41 1 1=true:=zZ
theorem wB:Qc Es 41 10 10=true:=zZ
theorem pS:Qc Es 41 11 11=true:=zZ
theorem fY:Qc Es 41 2 2=true:=zZ
theorem Zm:Qc Es 41 3 3=true:=zZ
theorem zJ:Qc Es 41 4 4=true:=zZ
theorem Ga5:Qc Es 41 5 5=true:=zZ
theorem Ga4:Qc Es 41 6 6=true:=zZ
theorem Ga3:Qc Es 41 7 7=true:=zZ
theorem zI:Qc Es 41 8 8=true:=zZ
theorem zH:Qc Es 41 9 9=true:=zZ
theorem Yd:Qc Es 48 0 0=true:=zZ
theorem kD:dK Es 138 139 3=true:=zZ
theorem mP:dK Es 172 126 128=true:=zZ
theorem Jp:Es.follows .mixedOrders=true:=zZ
theorem zD:placesOf Es 126=some [(0,1),(1,1)]:=zZ
theorem Yv:placesOf Es 185=some [(0,1),(1,1),(2,1)]:=zZ
theorem lG:placesOf Es 63=some [(0,1),(1,1),(2,1)]:=zZ
theorem J5:Rj Es 24=true:=zZ
theorem lF:Rj Es 25=true:=zZ
theorem Ga:Rj Es 3=true:=zZ
theorem Qo:Rj Es 39=true:=zZ
theorem Z7:Rj Es 4=true:=zZ
theorem Q9:Rj Es 42=true:=zZ
theorem Jm:Rj Es 5=true:=zZ
theorem Ri:Rj Es 59=true:=zZ
theorem rG:Y0 Es 126 2=true:=zZ
theorem cD:Y0 Es 128 4=true:=zZ
theorem YP:Y0 Es 137 2=true:=zZ
theorem H44:Y0 Es 185 3=true:=zZ
theorem R9:Y0 Es 3 1=true:=zZ
theorem Z4:Y0 Es 37 9=true:=zZ
theorem mO:Y0 Es 41 12=true:=zZ
theorem Hj:sliceB Es 116 128 4=true:=zZ
theorem oV:sliceB Es 183 185 3=true:=zZ
theorem Hq:sliceB Es 24 41 12=true:=zZ
theorem dE:sliceB Es 25 137 2=true:=zZ
theorem Hu:sliceB Es 38 37 9=true:=zZ
theorem Gq:sliceB Es 39 3 1=true:=zZ
theorem Jb:sliceB Es 42 59 1=true:=zZ
theorem aE:sliceB Es 54 5 1=true:=zZ
theorem YM:(Es.info? 126).bind (fun i=>i.zero.map Value.cells)=some (List.toArray [E0,E0]):=zZ
theorem YK:(Es.info? 139).bind (fun i=>i.zero.map Value.cells)=some (List.toArray [E0,E0,E0]):=zZ
theorem bB:(Es.info? 185).bind (fun i=>i.zero.map Value.cells)=some (List.toArray [E0,E0,E0]):=zZ
theorem mN:(Es.info? 63).bind (fun i=>i.zero.map Value.cells)=some (List.toArray [E0,E0,.int .u8 0]):=zZ
theorem tY:R3 Es 126 2=true:=zZ
theorem Rx:R3 Es 128 4=true:=zZ
theorem oU:R3 Es 137 2=true:=zZ
theorem tX:R3 Es 185 3=true:=zZ
theorem Qv:R3 Es 3 1=true:=zZ
theorem Re:R3 Es 37 9=true:=zZ
theorem Z6:R3 Es 41 12=true:=zZ
theorem zX:R3 Es 5 1=true:=zZ
theorem Gb9:(Es.info? 128).bind (·.zero)=some (.agg #[E0,E0,E0,E0]):=zZ
theorem tW:(Es.info? 3).bind (·.zero)=some E0:=zZ
theorem Gf2:oI Es 126 G9.kv:=oI.of_eq G9.ks zZ (fun a b h=>by simp only [G9.ks,List.cons.injEq,Value.int.injEq,Value.bool.injEq,Value.string.injEq,true_and,and_true] at h; obtain⟨_,_⟩:=a; obtain⟨_,_⟩:=b; simp_all) 4 (by decide) (fun a b=>Jac a b) (fun a=>by kernel_rfl) (fun a=>by simp [Instr.sameBits,G9.ks])
theorem QQ:oI Es 139 Hk.kv:=oI.of_eq Hk.ks zZ (fun a b h=>by simp only [Hk.ks,List.cons.injEq,Value.int.injEq,Value.bool.injEq,Value.string.injEq,true_and,and_true] at h; obtain⟨_,_,_⟩:=a; obtain⟨_,_,_⟩:=b; simp_all) 4 (by decide) (fun a b=>Q41 a b) (fun a=>by kernel_rfl) (fun a=>by simp [Instr.sameBits,Hk.ks])
end XAF
open XAF

def eP (l:List J0):Option Bool:=each (fun a d (c:Unit) b=>bif ((decide (a.n < a.low))||(decide (a.high < a.n))) then (some false) else (b ())) (fun(c:Unit)=>some true) l 0 ()
theorem tI (l:List J0) (r:Bool) (h:eP l=some r):Pure Es 97 [LS 3 J0.av l] (·=BL r):=by
 unfold eP at h;refine H8 [.tmp 2] Tryz.func97 O O (Jr fun x=>(JLm (BL false) O (G6 (x (Js fun z=>Jr fun a0=>(JLm (LS 3 J0.av l) O (JLl oV O O O fun a1=>(JLm (I64 0) O (G6 (a0 (Gi ?_)))))))))));obtain⟨a2,i,j,g,h⟩:=J7 h;refine GO h (fun b c=>[(5,LS 3 J0.av l),(6,Er l.length),(7,Er b)]) (fun b c=>[]) ⟨.q,ø,O⟩ ?_;clear h;intro b c d a5 a3;refine Jr fun k=>(JLh (BL (decide ((b:Int) < (l.length:Int)))) J9 O (G6 (k (Js fun m=>Gp O (fun hb=>?_) (fun hb=>?_)))))
 ·have e:=Jq hb;obtain⟨a,a4,o,p,h⟩:=Hv d e;replace h:=Y2 j h;refine Gs (m (Js fun q=>Gi (Jr fun s=>(JLh (.AC [I64 a.n,I64 a.low,I64 a.high]) (H4 (f:=J0.av) (xs:=l) (y:=a) O O O oV o) O (JLh (.agg [I64 a.n,I64 a.low,I64 a.high]) (Gf Hf1) O (JLh (.ptr 1224 0) (H9 1224 3 tX O O) O (Ha (u:=.AP) (H1 (u:=.agg [I64 a.n,I64 a.low,I64 a.high]) (ds:=[I64 a.n,I64 a.low,I64 a.high]) H44 O O O O O O O O) (G6 (s (fzQ [(4,.AC [I64 a.n,I64 a.low,I64 a.high]),(5,LS 3 J0.av l),(6,Er l.length),(7,Er b)] [] 1224 rfl rfl rfl ø rfl ?_))))))))));refine Jr fun t=>(JLh (.AC [I64 a.n,I64 a.low,I64 a.high]) (Gd wC) O (JLh (I64 a.n) (Gh Ga) O (JLh (.AC [I64 a.low,I64 a.high]) (Gd G2c) O (JLh (I64 a.low) (Gh Ga) O (JLh (BL (decide (a.n < a.low))) J9 O (JLm (BL (decide (a.n < a.low))) O (JLo (.AC [I64 a.n,I64 a.low,I64 a.high]) [] O .scf ø (fun hc=>Gd wC) O (JLo (I64 a.n) [17] O .scf ⟨Ua,ø⟩ (fun hc=>Gh Ga) O (JLo (.AC [I64 a.high]) [] O .scf ø (fun hc=>Gd G2b) O (JLo (I64 a.high) [19] O .scf ⟨Ua,ø⟩ (fun hc=>Gh Ga) O (JLo (BL (decide (a.high < a.n))) [18,20] O .scf ⟨Ua,Ua,ø⟩ (fun hc=>Zg) O (JLh (BL ((decide (a.n < a.low))||(decide (a.high < a.n)))) aW O (G6 (t ?_))))))))))))));refine JCc O h ?_ ?_<;>intro h hb
  ·refine Jr fun v=>(JLm (BL false) O (G6 (v (H0 (AY BL h)))))
  ·refine Gs (q (G2 (JLh (I64 ((b+1:Nat):Int)) (Hs (Hi e a1)) O (JLm (I64 ((b+1:Nat):Int)) O (G6 (a3 _ _ (b+1) () (app1 p h) (by omega) ⟨.q,ø,rfl⟩))))))
 ·have h:=app1 g (Hw d (Hd hb));refine Hn (z (Jr fun w=>(JLm (BL true) O (G6 (w (H0 (AY BL h)))))))

def Zx (c:G7):Option Bool:=each (fun d a (f:Unit) e=>chk (c.Tiers - 1) fun g=>bnd (eP [(J0.mk d 0 g)]) fun b=>bnd (bif ((!(!b))&&(decide (0 < (a:Int)))) then chk ((a:Int) - 1) some else some 0) fun h=>bnd (bif ((!(!b))&&(decide (0 < (a:Int)))) then Jy c.BO h some else some default) fun i=>bif ((!b)||((decide (0 < (a:Int)))&&(decide (d<=i)))) then (some false) else (e ())) (fun(f:Unit)=>bnd (eP [(J0.mk c.Bay 0 39),(J0.mk c.Row 0 30),(J0.mk c.Tiers 1 10),(J0.mk c.Height 0 40000),(J0.mk c.BN 0 500000000),(J0.mk c.BM 0 500000000),(J0.mk c.Lash 0 1000000000000),(J0.mk c.X (-500000) 500000),(J0.mk c.Y (-500000) 500000),(J0.mk c.Z (-500000) 500000)]) fun j=>some j) c.BO 0 ()
abbrev Eu (c:G7):List J0:=[(J0.mk c.Bay 0 39),(J0.mk c.Row 0 30),(J0.mk c.Tiers 1 10),(J0.mk c.Height 0 40000),(J0.mk c.BN 0 500000000),(J0.mk c.BM 0 500000000),(J0.mk c.Lash 0 1000000000000),(J0.mk c.X (-500000) 500000),(J0.mk c.Y (-500000) 500000),(J0.mk c.Z (-500000) 500000)]
abbrev Ev (c:G7):AG:=[I64 c.Tiers,I64 c.Height,I64 c.BN,I64 c.BM,I64 c.Lash,E5 c.BO,I64 c.X,I64 c.Y,I64 c.Z]
abbrev Ew (c:G7):AG:=[I64 c.Lash,I64 0,I64 1000000000000]
abbrev Ex (c:G7):AG:=[I64 c.BM,I64 0,I64 500000000]
abbrev Ey (c:G7):AG:=[I64 c.BN,I64 0,I64 500000000]
abbrev Ez (c:G7):AG:=[I64 c.X,I64 (-500000),I64 500000]
abbrev K0 (c:G7):AG:=[I64 c.Y,I64 (-500000),I64 500000]
abbrev Ka (c:G7):AG:=[I64 c.Z,I64 (-500000),I64 500000]
abbrev Kb (c:G7):AG:=[I64 c.Height,I64 0,I64 40000]
theorem G86 (c:G7) (r:Bool) (h:Zx c=some r):Pure Es 56 [.agg (G7.cs c)] (·=BL r):=by
 unfold Zx at h;refine H8 [.tmp 2] Tryz.func56 O O (Jr fun a7=>(JLh (.ptr 1172 0) (Q2 (cs:=(G7.cs c)) 1172 O O O O O) O (JLm (BL false) O (G6 (a7 (Gj [(1,En c)] [] 1172 rfl rfl rfl ø rfl (by exact⟨.ptr,ø⟩) (Jr fun a8=>(JLm (.fn 97 []) O (G6 (a8 (Js fun a9=>Jr fun b0=>(JLh (.AC [E5 c.BO,I64 c.X,I64 c.Y,I64 c.Z]) (Gd zI) O (JLh (E5 c.BO) (Gh Qo) O (JLl Gq O O O fun b1=>(JLm (I64 0) O (G6 (b0 (Gi ?_))))))))))))))))));obtain⟨b2,o,p,n,h⟩:=J7 h;refine GO h (fun a j=>[(1,En c),(3,.fn 97 []),(7,E5 c.BO),(8,Er c.BO.length),(9,Er a)]) (fun a j=>[]) ⟨.q,ø,rfl⟩ ?_;clear h;intro a j k b6 b3;refine Jr fun q=>(JLh (BL (decide ((a:Int) < (c.BO.length:Int)))) J9 O (G6 (q (Js fun s=>Gp O (fun hb=>?_) (fun hb=>?_)))))
 ·have l:=Jq hb;obtain⟨d,b5,t,v,h⟩:=Hv k l;replace h:=Y2 p h;refine Gs (s (Js fun w=>Gi (Jr fun x=>(JLm (Er a) O (JLh (.AC [I64 d]) (H4 (f:=I64) (xs:=c.BO) (y:=d) O O O Gq t) O (JLh (I64 d) (Gh Ga) O (JLm (Er a) O (JLm (I64 d) O (G6 (x (Jr fun z=>(JLm (.fn 97 []) O (JLm (I64 d) O (JLh (.AC (Ev c)) (Gd Zm) O (JLh (I64 c.Tiers) (Gh Ga) O ?_)))))))))))))));obtain⟨e,a0,h⟩:=Hg h;refine JLh (I64 e) (fC a0) O (JLh (.agg [I64 d,I64 0,I64 e]) (Jj (cs:=[I64 d,I64 0,I64 e]) [(0,1),(1,1),(2,1)] [I64 0,I64 0,I64 0] [E0,E0,E0] Yv bB (zzQ O)) O (JLh (LS 3 J0.av [(J0.mk d 0 e)]) (Hb (xs:=[.agg [I64 d,I64 0,I64 e]]) O ⟨O,O,ø⟩ oV tX) O ?_));obtain⟨g,a1,h⟩:=Ge h;refine JLh (BL g) (aK (args:=[LS 3 J0.av [(J0.mk d 0 e)]]) (BA:=[]) O O (tI [(J0.mk d 0 e)] g a1) G33 ⟨O,O,ø⟩) O (JLh (BL (!g)) (aB (b:=g)) O (JLm (BL (!g)) O (JLo (Er a) [] O .scf ø (fun hc=>G4) O (JLo (BL (decide (0 < (a:Int)))) [24] O .scf ⟨Ua,ø⟩ (fun hc=>Zg) O (JLo (BL (decide (0 < (a:Int)))) [25] O .scf ⟨Ua,ø⟩ (fun hc=>G4) O (JLo (I64 d) [] O .optt ø (fun hc=>G4) O (JLo (.AC [E5 c.BO,I64 c.X,I64 c.Y,I64 c.Z]) [] O .optt ø (fun hc=>Gd zI) O (JLo (E5 c.BO) [28] O .optt ⟨Ua,ø⟩ (fun hc=>Gh Qo) O (JLo (Er a) [] O .optt ø (fun hc=>G4) O ?_)))))))));obtain⟨b4,a2,h⟩:=Ge h;refine JLo (I64 b4) [30] O .optt ⟨Ua,ø⟩ (fun hc=>fC (xA (H5 hc a2))) O ?_;obtain⟨i,a3,h⟩:=Ge h;refine JLo (.AC [I64 i]) [29,31] O .optt ⟨Ua,Ua,ø⟩ (fun hc=>(match aO (H5 hc a3) with | ⟨_,hm_,hy_⟩=>H4 (f:=I64) (xs:=c.BO) (y:=i) O O O Gq hy_ hm_)) O (JLo (I64 i) [32] O .optt ⟨Ua,ø⟩ (fun hc=>Gh Ga) O (JLo (BL (decide (d<=i))) [27,33] O .optt ⟨Ua,Ua,ø⟩ (fun hc=>mF) O (Gb (u:=BL ((decide (0 < (a:Int)))&&(decide (d<=i)))) [(26,BL (decide (0 < (a:Int)))),(34,_)] O O O .scf ⟨.all id,.part,ø⟩ (fun hc=>Qx) ?_)))
  refine JLh (BL ((!g)||((decide (0 < (a:Int)))&&(decide (d<=i))))) aW O (G6 (z (JCc O h (fun h hb=>?_) (fun h hb=>?_))))
  ·refine Jr fun a4=>(JLm (BL false) O (G6 (a4 (H0 (AY BL h)))))
  ·refine Gs (w (G2 (JLh (I64 ((a+1:Nat):Int)) (Hs (Hi l b1)) O (JLm (I64 ((a+1:Nat):Int)) O (G6 (b3 _ _ (a+1) () (app1 v h) (by omega) ⟨.q,ø,rfl⟩))))))
 ·have h:=app1 n (Hw k (Hd hb));refine Hn (a9 ?_);refine Jr fun a5=>(JLm (.fn 97 []) O (JLh (En c) (Gd gB) O (JLh (I64 c.Bay) (Gh Ga) O (JLh (.agg [I64 c.Bay,I64 0,I64 39]) (Jj (cs:=[I64 c.Bay,I64 0,I64 39]) [(0,1),(1,1),(2,1)] [I64 0,I64 0,I64 0] [E0,E0,E0] Yv bB (zzQ O)) O (JLh (.AC [I64 c.Row,BL c.Deck,I64 c.Tiers,I64 c.Height,I64 c.BN,I64 c.BM,I64 c.Lash,E5 c.BO,I64 c.X,I64 c.Y,I64 c.Z]) (Gd gA) O (JLh (I64 c.Row) (Gh Ga) O (JLh (.agg [I64 c.Row,I64 0,I64 30]) (Jj (cs:=[I64 c.Row,I64 0,I64 30]) [(0,1),(1,1),(2,1)] [I64 0,I64 0,I64 0] [E0,E0,E0] Yv bB (zzQ O)) O (JLh (.AC (Ev c)) (Gd Zm) O (JLh (I64 c.Tiers) (Gh Ga) O (JLh (.agg [I64 c.Tiers,I64 1,I64 10]) (Jj (cs:=[I64 c.Tiers,I64 1,I64 10]) [(0,1),(1,1),(2,1)] [I64 0,I64 0,I64 0] [E0,E0,E0] Yv bB (zzQ O)) O (JLh (.AC [I64 c.Height,I64 c.BN,I64 c.BM,I64 c.Lash,E5 c.BO,I64 c.X,I64 c.Y,I64 c.Z]) (Gd zJ) O (JLh (I64 c.Height) (Gh Ga) O (JLh (.agg (Kb c)) (Jj (cs:=(Kb c)) [(0,1),(1,1),(2,1)] [I64 0,I64 0,I64 0] [E0,E0,E0] Yv bB (zzQ O)) O ?_)))))))))))));refine JLh (.AC [I64 c.BN,I64 c.BM,I64 c.Lash,E5 c.BO,I64 c.X,I64 c.Y,I64 c.Z]) (Gd Ga5) O (JLh (I64 c.BN) (Gh Ga) O (JLh (.agg (Ey c)) (Jj (cs:=(Ey c)) [(0,1),(1,1),(2,1)] [I64 0,I64 0,I64 0] [E0,E0,E0] Yv bB (zzQ O)) O (JLh (.AC [I64 c.BM,I64 c.Lash,E5 c.BO,I64 c.X,I64 c.Y,I64 c.Z]) (Gd Ga4) O (JLh (I64 c.BM) (Gh Ga) O (JLh (.agg (Ex c)) (Jj (cs:=(Ex c)) [(0,1),(1,1),(2,1)] [I64 0,I64 0,I64 0] [E0,E0,E0] Yv bB (zzQ O)) O (JLh (.AC [I64 c.Lash,E5 c.BO,I64 c.X,I64 c.Y,I64 c.Z]) (Gd Ga3) O (JLh (I64 c.Lash) (Gh Ga) O (JLh (.agg (Ew c)) (Jj (cs:=(Ew c)) [(0,1),(1,1),(2,1)] [I64 0,I64 0,I64 0] [E0,E0,E0] Yv bB (zzQ O)) O (JLh (.AC [I64 c.X,I64 c.Y,I64 c.Z]) (Gd zH) O (JLh (I64 c.X) (Gh Ga) O (JLh (.agg (Ez c)) (Jj (cs:=(Ez c)) [(0,1),(1,1),(2,1)] [I64 0,I64 0,I64 0] [E0,E0,E0] Yv bB (zzQ O)) O (JLh (.AC [I64 c.Y,I64 c.Z]) (Gd wB) O (JLh (I64 c.Y) (Gh Ga) O ?_)))))))))))));refine JLh (.agg (K0 c)) (Jj (cs:=(K0 c)) [(0,1),(1,1),(2,1)] [I64 0,I64 0,I64 0] [E0,E0,E0] Yv bB (zzQ O)) O (JLh (.AC [I64 c.Z]) (Gd pS) O (JLh (I64 c.Z) (Gh Ga) O (JLh (.agg (Ka c)) (Jj (cs:=(Ka c)) [(0,1),(1,1),(2,1)] [I64 0,I64 0,I64 0] [E0,E0,E0] Yv bB (zzQ O)) O (JLh (LS 3 J0.av (Eu c)) (Hb (xs:=[.agg [I64 c.Bay,I64 0,I64 39],.agg [I64 c.Row,I64 0,I64 30],.agg [I64 c.Tiers,I64 1,I64 10],.agg (Kb c),.agg (Ey c),.agg (Ex c),.agg (Ew c),.agg (Ez c),.agg (K0 c),.agg (Ka c)]) O ⟨O,O,O,O,O,O,O,O,O,O,O,O,O,O,O,O,O,O,O,O,ø⟩ oV tX) O ?_))));obtain⟨m,a6,h⟩:=Ge h;refine JLh (BL m) (aK (args:=[LS 3 J0.av (Eu c)]) (BA:=[]) O O (tI (Eu c) m a6) G33 ⟨O,O,ø⟩) O (JLm (BL m) O (G6 (a5 (H0 (AY BL h)))))

def lY (s:Gc) (Rp:Bool->Prop):Option Prop:=bif (((decide ((s.AB.length:Int) < 1))||(decide (200 < (s.AB.length:Int))))||(decide (40 < (s.AR.length:Int)))) then (some (Rp false)) else (each (fun c y (f:(Gw Hk Int)) m=>jp (fun g=>bif c.Deck then (g 1) else (g 0)) fun(k:Int)=>bnd (some (Gw.get f (Hk.mk c.Bay c.Row k) 0)) fun v=>chk (v+1) fun w=>bnd (Zx c) fun x=>bif (!x) then (some (Rp false)) else (m (Gw.put f (Hk.mk c.Bay c.Row k) w))) (fun(f:(Gw Hk Int))=>each (fun b z (h:(Gw Hk Int)) n=>bif (((decide (b.Bay < 0))||(decide (40<=b.Bay)))||(decide ((b.Rows.length:Int)=0))) then (some (Rp false)) else (each (fun a d (e:(Gw Hk Int)) i=>bnd (bif ((!((decide (a < 0))||(decide (30 < a))))&&(decide (0 < (d:Int)))) then chk ((d:Int) - 1) some else some 0) fun o=>bnd (bif ((!((decide (a < 0))||(decide (30 < a))))&&(decide (0 < (d:Int)))) then Jy b.Rows o some else some default) fun p=>bif (((decide (a < 0))||(decide (30 < a)))||((decide (0 < (d:Int)))&&(decide (a<=p)))) then (some (Rp false)) else (bnd (some (Gw.get e (Hk.mk b.Bay a 2) 0)) fun q=>chk (q+1) fun r=>i (Gw.put e (Hk.mk b.Bay a 2) r))) (fun(e:(Gw Hk Int))=>n e) b.Rows 0 h)) (fun(h:(Gw Hk Int))=>Gdf (fun(t:Hk×Int) (u:Unit) j=>bif decide (1 < t.2) then (lft (some (Rp false))) else (j ())) (fun(u:Unit)=>some (Rp true)) (Gw.l h) ()) s.AR 0 f) s.AB 0 (Gw.empty:Gw Hk Int))
def pH (s:Gc):Option Bool:=bif (((decide ((s.AB.length:Int) < 1))||(decide (200 < (s.AB.length:Int))))||(decide (40 < (s.AR.length:Int)))) then (some (id false)) else (each (fun c y (f:(Gw Hk Int)) m=>jp (fun g=>bif c.Deck then (g 1) else (g 0)) fun(k:Int)=>bnd (some (Gw.get f (Hk.mk c.Bay c.Row k) 0)) fun v=>chk (v+1) fun w=>bnd (Zx c) fun x=>bif (!x) then (some (id false)) else (m (Gw.put f (Hk.mk c.Bay c.Row k) w))) (fun(f:(Gw Hk Int))=>each (fun b z (h:(Gw Hk Int)) n=>bif (((decide (b.Bay < 0))||(decide (40<=b.Bay)))||(decide ((b.Rows.length:Int)=0))) then (some (id false)) else (each (fun a d (e:(Gw Hk Int)) i=>bnd (bif ((!((decide (a < 0))||(decide (30 < a))))&&(decide (0 < (d:Int)))) then chk ((d:Int) - 1) some else some 0) fun o=>bnd (bif ((!((decide (a < 0))||(decide (30 < a))))&&(decide (0 < (d:Int)))) then Jy b.Rows o some else some default) fun p=>bif (((decide (a < 0))||(decide (30 < a)))||((decide (0 < (d:Int)))&&(decide (a<=p)))) then (some (id false)) else (bnd (some (Gw.get e (Hk.mk b.Bay a 2) 0)) fun q=>chk (q+1) fun r=>i (Gw.put e (Hk.mk b.Bay a 2) r))) (fun(e:(Gw Hk Int))=>n e) b.Rows 0 h)) (fun(h:(Gw Hk Int))=>JA (fun(t:Hk×Int) (u:Unit) j=>bif decide (1 < t.2) then (lft (some (id false))) else (j ())) (fun(u:Unit)=>some (id true)) (Gw.l h) ()) s.AR 0 f) s.AB 0 (Gw.empty:Gw Hk Int))
abbrev Kc (s:Gc):AG:=[Eb s.AR,I64 s.Light.Kilos,I64 s.Light.X,I64 s.Light.Y,I64 s.Light.Z,E8 s.Rows,E9 s.Frames,Ea s.BQ,I64 s.Gk.BF,I64 s.Gk.Trim,I64 s.Gk.List_,I64 s.Gk.BG]
abbrev Kd (s:Gc):Bool:=((decide ((s.AB.length:Int) < 1))||(decide (200 < (s.AB.length:Int))))
abbrev Ke (a:(Gw Hk Int)):Loc:=[(1089,MP 138 Hk.kv I64 a)]
theorem G87 (s:Gc) (Rp:Bool->Prop) (p:Prop) (h:lY s Rp=some p) (hp:p):Pure Es 20 [.agg (Gc.cs s)] (fun av=>∃ r,Rp r∧av=BL r):=by
 unfold lY at h;refine H8 [.tmp 2] Tryz.func20 O O (Jr fun i8=>(JLh (.ptr 1086 0) (Q2 (cs:=(Gc.cs s)) 1086 O O O O O) O (JLm (BL false) O (G6 (i8 (Gj [(1,Ei s)] [] 1086 rfl rfl rfl ø rfl (by exact⟨.ptr,ø⟩) (Js fun i9=>?_)))))));refine Jr fun j0=>(JLh (Ei s) (Gd Hm) O (JLh (E7 s.AB) (Gh J5) O (JLl Hq O O O fun k2=>(JLh (BL (decide ((s.AB.length:Int) < 1))) J9 O (JLm (BL (decide ((s.AB.length:Int) < 1))) O (JLo (Ei s) [] O .scf ø (fun hc=>Gd Hm) O (JLo (E7 s.AB) [18] O .scf ⟨Ua,ø⟩ (fun hc=>Gh J5) O (JLo (Er s.AB.length) [19] O .scf ⟨Ua,ø⟩ (fun hc=>Yo (f:=G7.av) (xs:=s.AB) Hq) O (JLo (BL (decide (200 < (s.AB.length:Int)))) [20] O .scf ⟨Ua,ø⟩ (fun hc=>Zg) O (JLh (BL (Kd s)) aW O (JLm (BL (Kd s)) O (JLo (.AC (Kc s)) [] O .scf ø (fun hc=>Gd dW) O (JLo (Eb s.AR) [24] O .scf ⟨Ua,ø⟩ (fun hc=>Gh lF) O ?_)))))))))))));refine JLo (Er s.AR.length) [25] O .scf ⟨Ua,ø⟩ (fun hc=>Yo (f:=Gy.av) (xs:=s.AR) dE) O (JLo (BL (decide (40 < (s.AR.length:Int)))) [26] O .scf ⟨Ua,ø⟩ (fun hc=>Zg) O (JLh (BL ((Kd s)||(decide (40 < (s.AR.length:Int))))) aW O (G6 (j0 (JCc O h (fun h hb=>?_) (fun h hb=>?_))))))
 ·refine Jr fun j1=>(JLm (BL false) O (G6 (j1 (H0 (⟨[BL false],[],ø,O,⟨⟨_,O,.conv .same⟩,ø⟩,O,false,Eq.mpr (Sc h) hp,O⟩)))))
 ·refine Gs (i9 (Jr fun j2=>(JLh (.mp 1089) (iJ 1089 Hk.kv I64 O O O) O (JLm (.mp 1089) O (G6 (j2 (Js fun j3=>Jr fun j4=>(JLh (Ei s) (Gd Hm) O (JLh (E7 s.AB) (Gh J5) O (JLl Hq O O O fun f0=>(JLm (I64 0) O (G6 (j4 (Gi ?_))))))))))))));obtain⟨j5,f1,f2,c4,h⟩:=J7 h;refine GO h (fun o k=>[(1,Ei s),(3,.mp 1089),(31,E7 s.AB),(32,Er s.AB.length),(33,Er o)]) (fun o k=>(Ke k)) ⟨.q,⟨fmQ,ø⟩,rfl⟩ ?_;clear h;intro o k b5 k8 j6;refine Jr fun f3=>(JLh (BL (decide ((o:Int) < (s.AB.length:Int)))) J9 O (G6 (f3 (Js fun f4=>Gp O (fun hb=>?_) (fun hb=>?_)))))
  ·have b6:=Jq hb;obtain⟨g,k3,f5,f6,h⟩:=Hv b5 b6;replace h:=Y2 f2 h;refine Gs (f4 (Js fun f7=>Gi (Jr fun f8=>(JLh (En g) (H4 (f:=G7.av) (xs:=s.AB) (y:=g) O O O Hq f5) O (JLh (.agg (G7.cs g)) (Gf iN) O (JLh (.ptr 1087 0) (H9 1087 12 Z6 O O) O (Ha (u:=.AP) (H1 (u:=.agg (G7.cs g)) (ds:=(G7.cs g)) mO O O O O O O O O) (G6 (f8 ?_)))))))));refine fzQ [(1,Ei s),(3,.mp 1089),(5,En g),(31,E7 s.AB),(32,Er s.AB.length),(33,Er o)] (Ke k) 1087 rfl rfl rfl ⟨fmQ,ø⟩ rfl (Jr fun f9=>(JLm (I64 0) O (G6 (f9 ?_))));obtain⟨g0,c5,h⟩:=Qm h;refine Jz (fun n:Int=>g0 n=some p) (fun n=>[(1,Ei s),(3,.mp 1089),(5,En g),(6,I64 n),(31,E7 s.AB),(32,Er s.AB.length),(33,Er o)]) (fun n=>(Ke k)) (fun Kj74 ej74=>?_) ?_
   ·refine Jr fun g1=>(JLh (.AC ((G7.cs g).drop 2)) (Gd fY) O (JLh (BL g.Deck) (Gh Z7) O (G6 (g1 (JCc O h (fun h hb=>?_) (fun h hb=>?_))))))
    ·refine G2 (JLm (I64 1) O (G6 (ej74 _ _ 1 h ⟨.q,⟨fmQ,ø⟩,rfl⟩)))
    ·refine Gs (ej74 _ _ 0 h ⟨.q,⟨fmQ,ø⟩,rfl⟩)
   ·intro n h;replace h:=app1 c5 h;refine Js fun g2=>Qu (l':=[(1,Ei s),(3,.mp 1089),(5,En g),(6,I64 n),(31,E7 s.AB),(32,Er s.AB.length),(33,Er o)]) (L':=(Ke k)) ⟨.q,⟨fmQ,ø⟩,rfl⟩ ?_;obtain⟨j7,b7,h⟩:=Ge h;obtain⟨a4,b8,h⟩:=Hg h;refine Qe [9,11] [0,0,0,0,0,0,0,0,0,0,1,0] [0,0,0,0,0,0,0,1,1,0,1,0] [(Ke k),((1089,MI 138 Hk.kv I64 k (Hk.mk g.Bay g.Row n) 0)::(Ke k)),((1089,MP 138 Hk.kv I64 (Gw.put k (Hk.mk g.Bay g.Row n) a4))::((1089,MI 138 Hk.kv I64 k (Hk.mk g.Bay g.Row n) 0)::(Ke k)))] Jp zZ rfl rfl ?_;refine Gr (u:=.mp 1089) O O ⟨Gg G4,ø⟩ (Gr (u:=En g) O O ⟨Gg (Gd gB),ø⟩ (Gr (u:=I64 g.Bay) O O ⟨Gg (Gh Ga),ø⟩ (Gr (u:=.AC ((G7.cs g).drop 1)) O O ⟨Gg (Gd gA),ø⟩ (Gr (u:=I64 g.Row) O O ⟨Gg (Gh Ga),ø⟩ (Gr (u:=I64 n) O O ⟨Gg G4,ø⟩ (Gr (u:=.agg [I64 g.Bay,I64 g.Row,I64 n]) O O ⟨Gg (HK (cs:=[I64 g.Bay,I64 g.Row,I64 n]) [E0,E0,E0] G47 YK O O),ø⟩ (Gr (u:=I64 j7) O O ⟨Gg (((Sc b7) ▸ qV (av:=I64) (m:=k) (a:=(Hk.mk g.Bay g.Row n)) 0 E0 O O O O QQ kD tW O)),Gg (((Sc b7) ▸ G96 (av:=I64) (m:=k) (a:=(Hk.mk g.Bay g.Row n)) 0 E0 O O O O QQ kD tW O)),ø⟩ (Gr (u:=I64 a4) O O ⟨Gg (Hs b8),Gg (Hs b8),ø⟩ (D_w (u:=.tup [.AP,I64 (dJ (Gw.l k) (Hk.mk g.Bay g.Row n):Int)]) O O O O (Gg (G05 (m:=k) (a:=(Hk.mk g.Bay g.Row n)) 0 E0 O O O O QQ kD tW O)) (Gr (u:=I64 (dJ (Gw.l k) (Hk.mk g.Bay g.Row n):Int)) O O ⟨Gg Gt,ø⟩ (sT (u:=.AP) O O O O (Gg (zT (m:=k) (a:=(Hk.mk g.Bay g.Row n)) (v:=a4) 0 O O O O O O)) (Yg ?_))) O)))))))));refine g2 (Jr fun g3=>(JLh (.agg (G7.cs g)) (Gf iN) O ?_));obtain⟨a5,g4,h⟩:=Ge h;refine JLh (BL a5) (Gz O (G86 g a5 g4) Hd4 ⟨O,O,ø⟩) O (JLh (BL (!a5)) (aB (b:=a5)) O (G6 (g3 (JCc O h (fun h hb=>?_) (fun h hb=>?_)))))
    ·refine Jr fun g5=>(JLm (BL false) O (G6 (g5 (H0 (⟨[BL false],[],ø,O,⟨⟨_,O,.conv .same⟩,ø⟩,O,false,Eq.mpr (Sc h) hp,O⟩)))))
    ·refine Gs (f7 (G2 (JLh (I64 ((o+1:Nat):Int)) (Hs (Hi b6 f0)) O (JLm (I64 ((o+1:Nat):Int)) O (G6 (j6 _ _ (o+1) (Gw.put k (Hk.mk g.Bay g.Row n) a4) (app1 f6 h) (by omega) ⟨.q,⟨fmQ,ø⟩,rfl⟩))))))
  ·have h:=app1 c4 (Hw b5 (Hd hb));refine Hn (j3 (Js fun g6=>Jr fun g7=>(JLh (.AC (Kc s)) (Gd dW) O (JLh (Eb s.AR) (Gh lF) O (JLl dE O O O fun g8=>(JLm (I64 0) O (G6 (g7 (Gi ?_)))))))));obtain⟨j8,g9,h0,c6,h⟩:=J7 h;refine GO h (fun t w=>[(3,.mp 1089),(55,Eb s.AR),(56,Er s.AR.length),(57,Er t)]) (fun t w=>(Ke w)) ⟨.q,⟨fmQ,ø⟩,rfl⟩ ?_;clear h;intro t w b9 k9 j9;refine Jr fun h1=>(JLh (BL (decide ((t:Int) < (s.AR.length:Int)))) J9 O (G6 (h1 (Js fun h2=>Gp O (fun hb=>?_) (fun hb=>?_)))))
   ·have c0:=Jq hb;obtain⟨c,k4,h3,h4,h⟩:=Hv b9 c0;replace h:=Y2 h0 h;refine Gs (h2 (Js fun h5=>Gi (Jr fun h6=>(JLh (.AC [I64 c.Bay,E5 c.Rows]) (H4 (f:=Gy.av) (xs:=s.AR) (y:=c) O O O dE h3) O (JLh (.agg [I64 c.Bay,E5 c.Rows]) (Gf uI) O (JLh (.ptr 1088 0) (H9 1088 2 oU O O) O (Ha (u:=.AP) (H1 (u:=.agg [I64 c.Bay,E5 c.Rows]) (ds:=[I64 c.Bay,E5 c.Rows]) YP O O O O O O O O) (G6 (h6 (fzQ [(3,.mp 1089),(8,.AC [I64 c.Bay,E5 c.Rows]),(55,Eb s.AR),(56,Er s.AR.length),(57,Er t)] (Ke w) 1088 rfl rfl rfl ⟨fmQ,ø⟩ rfl (Js fun h7=>?_)))))))))));refine Jr fun h8=>(JLh (.AC [I64 c.Bay,E5 c.Rows]) (Gd lI) O (JLh (I64 c.Bay) (Gh Ga) O (JLh (BL (decide (c.Bay < 0))) J9 O (JLm (BL (decide (c.Bay < 0))) O (JLo (.AC [I64 c.Bay,E5 c.Rows]) [] O .scf ø (fun hc=>Gd lI) O (JLo (I64 c.Bay) [65] O .scf ⟨Ua,ø⟩ (fun hc=>Gh Ga) O (JLo (BL (decide (40<=c.Bay))) [66] O .scf ⟨Ua,ø⟩ (fun hc=>fE) O (JLh (BL ((decide (c.Bay < 0))||(decide (40<=c.Bay)))) aW O (JLm (BL ((decide (c.Bay < 0))||(decide (40<=c.Bay)))) O (JLo (.AC [E5 c.Rows]) [] O .scf ø (fun hc=>Gd lH) O (JLo (E5 c.Rows) [70] O .scf ⟨Ua,ø⟩ (fun hc=>Gh Qo) O (JLo (Er c.Rows.length) [71] O .scf ⟨Ua,ø⟩ (fun hc=>Yo (f:=I64) (xs:=c.Rows) Gq) O (JLo (BL (decide ((c.Rows.length:Int)=0))) [72] O .scf ⟨Ua,ø⟩ (fun hc=>Qj) O ?_)))))))))))));refine JLh (BL (((decide (c.Bay < 0))||(decide (40<=c.Bay)))||(decide ((c.Rows.length:Int)=0)))) aW O (G6 (h8 (JCc O h (fun h hb=>?_) (fun h hb=>?_))))
    ·refine Jr fun h9=>(JLm (BL false) O (G6 (h9 (H0 (⟨[BL false],[],ø,O,⟨⟨_,O,.conv .same⟩,ø⟩,O,false,Eq.mpr (Sc h) hp,O⟩)))))
    ·refine Gs (h7 (Jr fun i0=>(JLh (.AC [E5 c.Rows]) (Gd lH) O (JLh (E5 c.Rows) (Gh Qo) O (JLl Gq O O O fun i1=>(JLm (I64 0) O (G6 (i0 (Gi ?_)))))))));obtain⟨i2,c7,c8,c1,h⟩:=J7 h;refine GO h (fun i j=>[(3,.mp 1089),(8,.AC [I64 c.Bay,E5 c.Rows]),(55,Eb s.AR),(56,Er s.AR.length),(57,Er t),(76,E5 c.Rows),(77,Er c.Rows.length),(78,Er i)]) (fun i j=>(Ke j)) ⟨.q,⟨fmQ,ø⟩,rfl⟩ ?_;clear h;intro i j a6 k5 i3;refine Jr fun c9=>(JLh (BL (decide ((i:Int) < (c.Rows.length:Int)))) J9 O (G6 (c9 (Js fun d0=>Gp O (fun hb=>?_) (fun hb=>?_)))))
     ·have a7:=Jq hb;obtain⟨d,k0,d1,d2,h⟩:=Hv a6 a7;replace h:=Y2 c8 h;refine Gs (d0 (Js fun d3=>Gi (Jr fun d4=>(JLm (Er i) O (JLh (.AC [I64 d]) (H4 (f:=I64) (xs:=c.Rows) (y:=d) O O O Gq d1) O (JLh (I64 d) (Gh Ga) O (JLm (Er i) O (JLm (I64 d) O (G6 (d4 (Js fun d5=>?_)))))))))));refine Jr fun d6=>(JLm (I64 d) O (JLh (BL (decide (d < 0))) J9 O (JLm (BL (decide (d < 0))) O (JLo (I64 d) [] O .scf ø (fun hc=>G4) O (JLo (BL (decide (30 < d))) [86] O .scf ⟨Ua,ø⟩ (fun hc=>Zg) O (JLh (BL ((decide (d < 0))||(decide (30 < d)))) aW O (JLm (BL ((decide (d < 0))||(decide (30 < d)))) O (JLo (Er i) [] O .scf ø (fun hc=>G4) O (JLo (BL (decide (0 < (i:Int)))) [90] O .scf ⟨Ua,ø⟩ (fun hc=>Zg) O (JLo (BL (decide (0 < (i:Int)))) [91] O .scf ⟨Ua,ø⟩ (fun hc=>G4) O (JLo (I64 d) [] O .optt ø (fun hc=>G4) O (JLo (.AC [E5 c.Rows]) [] O .optt ø (fun hc=>Gd lH) O (JLo (E5 c.Rows) [94] O .optt ⟨Ua,ø⟩ (fun hc=>Gh Qo) O ?_)))))))))))));refine JLo (Er i) [] O .optt ø (fun hc=>G4) O ?_;obtain⟨i4,d7,h⟩:=Ge h;refine JLo (I64 i4) [96] O .optt ⟨Ua,ø⟩ (fun hc=>fC (xA (H5 hc d7))) O ?_;obtain⟨a0,d8,h⟩:=Ge h;refine JLo (.AC [I64 a0]) [95,97] O .optt ⟨Ua,Ua,ø⟩ (fun hc=>(match aO (H5 hc d8) with | ⟨_,hm_,hy_⟩=>H4 (f:=I64) (xs:=c.Rows) (y:=a0) O O O Gq hy_ hm_)) O (JLo (I64 a0) [98] O .optt ⟨Ua,ø⟩ (fun hc=>Gh Ga) O (JLo (BL (decide (d<=a0))) [93,99] O .optt ⟨Ua,Ua,ø⟩ (fun hc=>mF) O (Gb (u:=BL ((decide (0 < (i:Int)))&&(decide (d<=a0)))) [(92,BL (decide (0 < (i:Int)))),(100,_)] O O O .scf ⟨.all id,.part,ø⟩ (fun hc=>Qx) ?_)))
      refine JLh (BL (((decide (d < 0))||(decide (30 < d)))||((decide (0 < (i:Int)))&&(decide (d<=a0))))) aW O (G6 (d6 (JCc O h (fun h hb=>?_) (fun h hb=>?_))))
      ·refine Jr fun d9=>(JLm (BL false) O (G6 (d9 (H0 (⟨[BL false],[],ø,O,⟨⟨_,O,.conv .same⟩,ø⟩,O,false,Eq.mpr (Sc h) hp,O⟩)))))
      ·refine Gs (d5 (Qu (l':=[(3,.mp 1089),(8,.AC [I64 c.Bay,E5 c.Rows]),(10,I64 d),(55,Eb s.AR),(56,Er s.AR.length),(57,Er t),(76,E5 c.Rows),(77,Er c.Rows.length),(78,Er i)]) (L':=(Ke j)) ⟨.q,⟨fmQ,ø⟩,rfl⟩ ?_));obtain⟨i5,a8,h⟩:=Ge h;obtain⟨a1,a9,h⟩:=Hg h;refine Qe [7,9] [0,0,0,0,0,0,0,0,1,0] [0,0,0,0,0,1,1,0,1,0] [(Ke j),((1089,MI 138 Hk.kv I64 j (Hk.mk c.Bay d 2) 0)::(Ke j)),((1089,MP 138 Hk.kv I64 (Gw.put j (Hk.mk c.Bay d 2) a1))::((1089,MI 138 Hk.kv I64 j (Hk.mk c.Bay d 2) 0)::(Ke j)))] Jp zZ rfl rfl ?_;refine Gr (u:=.mp 1089) O O ⟨Gg G4,ø⟩ (Gr (u:=.AC [I64 c.Bay,E5 c.Rows]) O O ⟨Gg (Gd lI),ø⟩ (Gr (u:=I64 c.Bay) O O ⟨Gg (Gh Ga),ø⟩ (Gr (u:=I64 d) O O ⟨Gg G4,ø⟩ (Gr (u:=.agg [I64 c.Bay,I64 d,I64 2]) O O ⟨Gg (HK (cs:=[I64 c.Bay,I64 d,I64 2]) [E0,E0,E0] G47 YK O O),ø⟩ (Gr (u:=I64 i5) O O ⟨Gg (((Sc a8) ▸ qV (av:=I64) (m:=j) (a:=(Hk.mk c.Bay d 2)) 0 E0 O O O O QQ kD tW O)),Gg (((Sc a8) ▸ G96 (av:=I64) (m:=j) (a:=(Hk.mk c.Bay d 2)) 0 E0 O O O O QQ kD tW O)),ø⟩ (Gr (u:=I64 a1) O O ⟨Gg (Hs a9),Gg (Hs a9),ø⟩ (D_w (u:=.tup [.AP,I64 (dJ (Gw.l j) (Hk.mk c.Bay d 2):Int)]) O O O O (Gg (G05 (m:=j) (a:=(Hk.mk c.Bay d 2)) 0 E0 O O O O QQ kD tW O)) (Gr (u:=I64 (dJ (Gw.l j) (Hk.mk c.Bay d 2):Int)) O O ⟨Gg Gt,ø⟩ (sT (u:=.AP) O O O O (Gg (zT (m:=j) (a:=(Hk.mk c.Bay d 2)) (v:=a1) 0 O O O O O O)) (Yg ?_))) O)))))));refine d3 (G2 (JLh (I64 ((i+1:Nat):Int)) (Hs (Hi a7 i1)) O (JLm (I64 ((i+1:Nat):Int)) O (G6 (i3 _ _ (i+1) (Gw.put j (Hk.mk c.Bay d 2) a1) (app1 d2 h) (by omega) ⟨.q,⟨fmQ,ø⟩,rfl⟩)))))
     ·have h:=app1 c1 (Hw a6 (Hd hb));refine Hn (h5 (G2 (JLh (I64 ((t+1:Nat):Int)) (Hs (Hi c0 g8)) O (JLm (I64 ((t+1:Nat):Int)) O (G6 (j9 _ _ (t+1) j (app1 h4 h) (by omega) ⟨.q,⟨fmQ,ø⟩,rfl⟩))))))
   ·have h:=app1 c6 (Hw b9 (Hd hb));refine Hn (g6 (Js fun e0=>Jr fun e1=>(JLm (.mp 1089) O (JLh (.it 1090) (G94 1090 (m:=w) O O O O kD) O (G6 (e1 (Gi ?_)))))));obtain⟨i6,e2,e3,c2,h⟩:=G6f h;refine G8e (Gw.size w) (fun x (a2:Unit)=>MInv i6 e2 (Gw.l w) x a2) (fun x a2=>[(115,.it 1090)]) (fun x a2=>[(1089,MP 138 Hk.kv I64 w),(1090,.iter (.mp 1089) (Gw.size w) x)]) () (MInv.start h hp) ⟨⟨.same,ø⟩,⟨⟨_,O,.map⟩,⟨_,O,.iter O⟩,ø⟩,O⟩ ?_;clear h hp;intro x a2 b0 k6 i7;refine Jr fun b1=>nQ O O O (H2a (m:=w) O O O O) ?_;intro u_ L_ hn_;rcases hn_ with ⟨c3,z,a3,b2,rfl,rfl⟩ | ⟨e4,rfl,rfl⟩
    ·obtain⟨k7,h,b3,b4⟩:=b0.step a3 b2;replace h:=JU e3 h;refine JLh (BL true) Gt O (G6 (b1 (Js fun e5=>G90 O (Gs (e5 (Gi (Jr fun e6=>(JLh (.tup [.agg (Hk.cs z.1),I64 z.2]) (G99 (kv:=Hk.kv) (av:=I64) (m:=w) (q:=c3) (seen:=x) (e:=z) O O O O a3) O (JLh (I64 z.2) Gt O (JLm (I64 z.2) O (G6 (e6 (Jr fun e7=>(JLm (I64 z.2) O (JLh (BL (decide (1 < z.2))) Zg O (G6 (e7 (JCc O h (fun h hb=>?_) (fun h hb=>?_)))))))))))))))))))
     ·refine Jr fun e8=>(JLm (BL false) O (G6 (e8 (H0 ?_))));obtain⟨y_,hy_,hl_⟩:=Q00 h;exact⟨[BL false],[],ø,O,⟨⟨_,O,.conv .same⟩,ø⟩,O,false,Eq.mpr (Sc hl_) (b3 y_ hy_),O⟩
     ·refine Gs (i7 _ _ (x++[c3]) () (b4 _ (Sc h).symm) (QP (Sa a3).1 b2) ⟨⟨.same,ø⟩,⟨⟨_,O,.map⟩,⟨_,O,.iter O⟩,ø⟩,O⟩)
    ·obtain⟨p_,h,hp⟩:=b0.done e4;replace h:=app1 c2 h;refine JLh (BL false) Gt O (G6 (b1 (Js fun k1=>QF O (Hn (e0 (Jr fun e9=>(JLm (BL true) O (G6 (e9 (H0 (⟨[BL true],[],ø,O,⟨⟨_,O,.conv .same⟩,ø⟩,O,true,Eq.mpr (Sc h) hp,O⟩)))))))))))
theorem G88 (S_:(Gc)->Option Bool) (hS_:∀ s r,S_ s=some r->∃ p:Prop,lY s (fun r_=>r_=r)=some p∧p) (s:Gc) (r:Bool) (h:S_ s=some r):Pure Es 20 [.agg (Gc.cs s)] (·=BL r):=by
 obtain⟨p,a,b⟩:=hS_ s r h;exact(G87 s _ p a b).monoP (fun av hh=>by obtain⟨r_,rfl,ha⟩:=hh; exact ha)

def eA (size:Int):Option AD:=bif decide (size=40) then (some [0]) else (bif decide (size=20) then (some [1,2]) else (some []))
theorem vO (size:Int) (r:AD) (h:eA size=some r):Pure Es 73 [U8 size] (·=Eg r):=by
 unfold eA at h;refine H8 [.tmp 2] Tryz.func73 O O (Jr fun a=>(JLh (Eg ([]:AD)) (Q5 1) O (G6 (a (Js fun b=>Jr fun c=>(JLm (U8 size) O (G6 (c (Gi (Jr fun d=>(JLh (BL (decide (size=40))) Qj O (JLm (BL (decide (size=40))) O (G6 (d (JCc O h (fun h hb=>?_) (fun h hb=>?_))))))))))))))))
 ·refine Jr fun e=>(JLh (Eg [0]) (Hb (xs:=[U8 0]) O ⟨O,O,ø⟩ aE zX) O (JLm (Eg [0]) O (G6 (e (H0 (AY (fun r:AD=>(Eg r:AV)) h))))))
 ·refine Jr fun f=>(JLh (BL (decide (size=20))) Qj O (JLm (BL (decide (size=20))) O (G6 (f (JCc O h (fun h hb=>?_) (fun h hb=>?_))))))
  ·refine Jr fun g=>(JLh (Eg [1,2]) (Hb (xs:=[U8 1,U8 2]) O ⟨O,O,O,O,ø⟩ aE zX) O (JLm (Eg [1,2]) O (G6 (g (H0 (AY (fun r:AD=>(Eg r:AV)) h))))))
  ·refine Gs (b (Jr fun i=>(JLh (Eg ([]:AD)) (Q5 1) O (G6 (i (H0 (AY (fun r:AD=>(Eg r:AV)) h)))))))

def lU (j:Gc) (k:Int) (ys_:List Slot):Option Unit:=each (fun e l (b:Nat) f=>need (decide ((max e.Tiers 0)<=9223372036854775807)) <| upto (fun m (c:Nat) g=>bnd (eA k) fun h=>each (fun i n (a:Nat) d=>need (decide (ys_[a]? = some (Slot.mk (l:Int) (m:Int) i))) <| d (a+1)) (fun(a:Nat)=>g a) h 0 c) (fun(c:Nat)=>f c) (max e.Tiers 0).toNat 0 b) (fun(b:Nat)=>need (decide (b=ys_.length)) (some ())) j.AB 0 0
theorem RU (e:Gc) (m:Int) (ys_:List Slot) (q_:Unit) (h:lU e m ys_=some q_):Iter Es 72 [.AC (Gc.cs e),.AC [U8 m]] (ys_.map (fun y:Slot=>[.agg [I64 y.G7,I64 y.AL,U8 y.Half]])):=by
 unfold lU at h;refine J51 Tryz.func72 O O ?_;intro E hE hys;refine R8 (fun K1 b9=>Q1 (J8 (u:=Ei e) hE (Gd Hm) ?_));refine J8 (u:=E7 e.AB) hE (Gh J5) ?_;refine tM hE (f:=G7.av) (xs:=e.AB) Hq O O (fun w=>?_);refine J8 (u:=I64 0) hE G4 ?_;refine R6 ?_;refine b9 _ _ _ (dS ?_);obtain⟨b2,c0,c1,z,h⟩:=J7 h;refine tL (fun a (n:Nat)=>each b2 c0 (List.drop a e.AB) a n=some q_) (fun a n=>[(0,.sc (.func (.yield E.lp) #[] #[])),(2,.AC [U8 m]),(10,E7 e.AB),(11,Er e.AB.length),(12,Er a)]) (fun a n=>[]) (fun a n=>n) (fun a=>e.AB.length - a) 0 0 h ⟨.q,ø,rfl⟩ rfl ?_;clear h;intro a n r K2 e2;refine R8 (fun K3 c2=>Q1 (J8 (u:=BL (decide ((a:Int) < (e.AB.length:Int)))) hE J9 ?_));refine R6 ?_;refine c2 _ _ _ (R8 (fun K4 c3=>nR O (fun hb=>?_) (fun hb=>?_)))
 ·have s:=Jq hb;obtain⟨g,e1,c4,c5,h⟩:=Hv r s;replace h:=Y2 c1 h;refine mD (c3 _ _ _ (R8 (fun K5 c6=>dS (R8 (fun K6 c7=>Q1 (J8 (u:=Er a) hE G4 ?_))))));refine J8 (u:=En g) hE (H4 (f:=G7.av) (xs:=e.AB) (y:=g) O O O Hq c4) ?_;refine J8 (u:=.agg (G7.cs g)) hE (Gf iN) ?_;refine J8 (u:=.ptr 1199 0) hE (H9 1199 12 Z6 O O) ?_;refine J8 (u:=Er a) hE G8 ?_;refine H28 (u:=.AP) hE (H1 (u:=.agg (G7.cs g)) (ds:=(G7.cs g)) mO O O O O O O O O) ?_ O O O;refine R6 ?_;refine c7 _ _ _ (R8 (fun K7 c8=>Q1 (J8 (u:=.ptr 1199 3) hE (Jg Zm) ?_)));refine J8 (u:=I64 g.Tiers) hE (Jo Ga) ?_;refine J8 (u:=I64 (max g.Tiers 0)) hE (J57 O O O) ?_;refine J8 (u:=I64 0) hE G4 ?_;refine R6 ?_;refine c8 _ _ _ (dS ?_);obtain⟨c9,h⟩:=Hz h;obtain⟨b8,d0,d1,a0,h⟩:=lD h;refine tL (fun c (l:Nat)=>upto b8 d0 ((max g.Tiers 0).toNat - c) c l=some q_) (fun c l=>[(0,.sc (.func (.yield E.lp) #[] #[])),(2,.AC [U8 m]),(4,Er a),(10,E7 e.AB),(11,Er e.AB.length),(12,Er a),(19,I64 (max g.Tiers 0)),(20,Er c)]) (fun c l=>[(1199,.box 41 (G7.cs g))]) (fun c l=>l) (fun c=>(max g.Tiers 0).toNat - c) 0 n h ⟨.q,⟨fbQ O .q,ø⟩,rfl⟩ rfl ?_;clear h;intro c l t K8 e8;refine R8 (fun K9 d2=>Q1 (J8 (u:=BL (decide ((c:Int) < (max g.Tiers 0)))) hE J9 ?_));refine R6 ?_;refine d2 _ _ _ (R8 (fun e3 a1=>nR O (fun hb=>?_) (fun hb=>?_)))
  ·have v:=gY hb;obtain⟨e4,d3,h⟩:=gT t v;replace h:=JU d1 h;refine mD (a1 _ _ _ (R8 (fun e5 a2=>dS (R8 (fun e6 a3=>Q1 (J8 (u:=Er c) hE G4 ?_))))));refine J8 (u:=Er c) hE G8 ?_;refine R6 ?_;refine a3 _ _ _ (R8 (fun e7 a4=>Q1 (J8 (u:=U8 m) hE (Gh Jm) ?_)));obtain⟨i,a5,h⟩:=Ge h;refine J8 (u:=Eg i) hE (Gz O (vO m i a5) G3b ⟨O,O,ø⟩) ?_;refine tM hE (f:=U8) (xs:=i) aE O O (fun a6=>?_);refine J8 (u:=I64 0) hE G4 ?_;refine R6 ?_;refine a4 _ _ _ (dS ?_);obtain⟨d4,a7,a8,q,h⟩:=J7 h;refine tL (fun d (k:Nat)=>each d4 a7 (List.drop d i) d k=some q_) (fun d k=>[(0,.sc (.func (.yield E.lp) #[] #[])),(2,.AC [U8 m]),(4,Er a),(6,Er c),(10,E7 e.AB),(11,Er e.AB.length),(12,Er a),(19,I64 (max g.Tiers 0)),(20,Er c),(24,Eg i),(25,Er i.length),(26,Er d)]) (fun d k=>[(1199,.box 41 (G7.cs g))]) (fun d k=>k) (fun d=>i.length - d) 0 l h ⟨.q,⟨fbQ O .q,ø⟩,rfl⟩ rfl ?_;clear h;intro d k o e9 d5;refine R8 (fun f0 a9=>Q1 (J8 (u:=BL (decide ((d:Int) < (i.length:Int)))) hE J9 ?_));refine R6 ?_;refine a9 _ _ _ (R8 (fun f1 b0=>nR O (fun hb=>?_) (fun hb=>?_)))
   ·have p:=Jq hb;obtain⟨j,e0,b1,b3,h⟩:=Hv o p;replace h:=Y2 a8 h;refine mD (b0 _ _ _ (R8 (fun f2 b4=>dS (R8 (fun f3 b5=>Q1 (J8 (u:=.AC [U8 j]) hE (H4 (f:=U8) (xs:=i) (y:=j) O O O aE b1) ?_))))));refine J8 (u:=U8 j) hE (Gh Jm) ?_;refine J8 (u:=U8 j) hE G8 ?_;refine R6 ?_;refine b5 _ _ _ (R8 (fun f4 b6=>Q1 (J8 (u:=.sc (.func (.yield E.lp) #[] #[])) hE G4 ?_)));refine J8 (u:=Er a) hE G4 ?_;refine J8 (u:=Er c) hE G4 ?_;refine J8 (u:=U8 j) hE G4 ?_;refine J8 (u:=.agg [Er a,Er c,U8 j]) hE (Jj (cs:=[Er a,Er c,U8 j]) [(0,1),(1,1),(2,1)] [I64 0,I64 0,U8 0] [E0,E0,.int .u8 0] lG mN (zzQ O)) ?_;obtain⟨b7,h⟩:=Hz h;refine Geb (us:=[.agg [Er a,Er c,U8 j]]) hE O O ⟨.inl O,O,ø⟩ (G21 (f:=(fun y:Slot=>[.agg [I64 y.G7,I64 y.AL,U8 y.Half]])) (x:=(Slot.mk (a:Int) (c:Int) j)) hys b7) ?_ O O O;refine J8 (u:=BL false) hE (aB (b:=true)) ?_;refine R6 ?_;refine b6 _ _ _ (G8d O (mD (b4 _ _ _ (Q1 (J8 (u:=I64 ((d+1:Nat):Int)) hE (Hs (Hi p a6)) ?_)))));refine J8 (u:=I64 ((d+1:Nat):Int)) hE G4 ?_;refine R6 ?_;exact d5 _ _ (d+1) (k+1) _ (app1 b3 h) (by omega) ⟨.q,⟨fbQ O .q,ø⟩,rfl⟩ rfl
   ·have h:=app1 q (Hw o (Hd hb));refine vH (a2 _ _ _ (Q1 (J8 (u:=I64 ((c+1:Nat):Int)) hE (Hs (Hi v (cJ c9))) ?_)));refine J8 (u:=I64 ((c+1:Nat):Int)) hE G4 ?_;refine R6 ?_;exact e8 _ _ (c+1) k _ (app1 d3 h) (by omega) ⟨.q,⟨fbQ O .q,ø⟩,rfl⟩ rfl
  ·have h:=app1 a0 (gU t (Zs hb));refine vH (c6 _ _ _ (Q1 (J8 (u:=I64 ((a+1:Nat):Int)) hE (Hs (Hi s w)) ?_)));refine J8 (u:=I64 ((a+1:Nat):Int)) hE G4 ?_;refine R6 ?_;exact e2 _ _ (a+1) l _ (app1 c5 h) (by omega) ⟨.q,ø,rfl⟩ rfl
 ·have h:=app1 z (Hw r (Hd hb));refine vH (G13 (Hz h).1)
theorem RV (S_:(Gc)->(Int)->Option (List Slot)) (hS_:∀ a b r,S_ a b=some r->lU a b r=some ()) (a:Gc) (b:Int) (r:List Slot) (h:S_ a b=some r):Iter Es 72 [.AC (Gc.cs a),.AC [U8 b]] (r.map (fun y:Slot=>[.agg [I64 y.G7,I64 y.AL,U8 y.Half]])):=RU a b r () (hS_ a b r h)

def mA (d:cA) (ys_:List (AE×AE)):Option Unit:=each (fun b e (a:AE×Nat) c=>need (decide (ys_[a.2]? = some (a.1,b))) <| c (b,(a.2+1))) (fun(a:AE×Nat)=>need (decide (a.2=ys_.length)) (some ())) d.AO 0 ([],0)
theorem RW (e:cA) (ys_:List (AE×AE)) (q_:Unit) (h:mA e ys_=some q_):Iter Es 118 [.AC [LS 1 (E4) e.AO,LS 1 (E5) e.BK]] (ys_.map (fun y:AE×AE=>[E4 y.1,E4 y.2])):=by
 unfold mA at h;refine J51 Tryz.func118 O O ?_;intro E hE hys;refine R8 (fun K1 w=>Q1 (J8 (u:=E4 ([]:AE)) hE (Q5 4) ?_));refine R6 ?_;refine w _ _ _ (R8 (fun K2 z=>Q1 (J8 (u:=.AC [LS 1 (E4) e.AO,LS 1 (E5) e.BK]) hE (Gd Yd) ?_)));refine J8 (u:=LS 1 (E4) e.AO) hE (Gh Q9) ?_;refine tM hE (f:=(E4)) (xs:=e.AO) Jb O O (fun a0=>?_);refine J8 (u:=I64 0) hE G4 ?_;refine R6 ?_;refine z _ _ _ (dS ?_);obtain⟨a1,k,l,j,h⟩:=J7 h;refine tL (fun a (c:AE×Nat)=>each a1 k (List.drop a e.AO) a c=some q_) (fun a c=>[(0,.sc (.func (.yield E.lp) #[] #[])),(3,E4 c.1),(7,LS 1 (E4) e.AO),(8,Er e.AO.length),(9,Er a)]) (fun a c=>[]) (fun a c=>c.2) (fun a=>e.AO.length - a) 0 ([],0) h ⟨.q,ø,rfl⟩ rfl ?_;clear h;intro a c g a4 a2;refine R8 (fun a5 m=>Q1 (J8 (u:=BL (decide ((a:Int) < (e.AO.length:Int)))) hE J9 ?_));refine R6 ?_;refine m _ _ _ (R8 (fun a6 n=>nR O (fun hb=>?_) (fun hb=>?_)))
 ·have i:=Jq hb;obtain⟨d,a3,o,p,h⟩:=Hv g i;replace h:=Y2 l h;refine mD (n _ _ _ (R8 (fun a7 q=>dS (R8 (fun a8 r=>Q1 (J8 (u:=.AC [E4 d]) hE (H4 (f:=(E4)) (xs:=e.AO) (y:=d) O O O Jb o) ?_))))));refine J8 (u:=E4 d) hE (Gh Ri) ?_;refine J8 (u:=E4 d) hE G8 ?_;refine R6 ?_;refine r _ _ _ (R8 (fun a9 s=>R8 (fun b0 t=>Q1 (J8 (u:=.sc (.func (.yield E.lp) #[] #[])) hE G4 ?_))));refine J8 (u:=E4 c.1) hE G4 ?_;refine J8 (u:=E4 d) hE G4 ?_;obtain⟨v,h⟩:=Hz h;refine Geb (us:=[E4 c.1,E4 d]) hE O O ⟨.inl O,O,.inl O,O,ø⟩ (G21 (f:=(fun y:AE×AE=>[E4 y.1,E4 y.2])) (x:=(c.1,d)) hys v) ?_ O O O;refine J8 (u:=BL false) hE (aB (b:=true)) ?_;refine R6 ?_;refine t _ _ _ (G8d O (mD (s _ _ _ (Q1 (J8 (u:=E4 d) hE G4 ?_)))));refine J8 (u:=E4 d) hE G8 ?_;refine R6 ?_;refine q _ _ _ (Q1 (J8 (u:=I64 ((a+1:Nat):Int)) hE (Hs (Hi i a0)) ?_));refine J8 (u:=I64 ((a+1:Nat):Int)) hE G4 ?_;refine R6 ?_;exact a2 _ _ (a+1) (d,(c.2+1)) _ (app1 p h) (by omega) ⟨.q,ø,rfl⟩ rfl
 ·have h:=app1 j (Hw g (Hd hb));refine vH (G13 (Hz h).1)
theorem RX (S_:(cA)->Option (List (AE×AE))) (hS_:∀ a r,S_ a=some r->mA a r=some ()) (a:cA) (r:List (AE×AE)) (h:S_ a=some r):Iter Es 118 [.AC [LS 1 (E4) a.AO,LS 1 (E5) a.BK]] (r.map (fun y:AE×AE=>[E4 y.1,E4 y.2])):=RW a r () (hS_ a r h)

def dD (x:Int):Option Bool:=some (decide (x≠x))
theorem sB (x:Int) (r:Bool) (h:dD x=some r):Pure Es 79 [I64 x] (·=BL r):=by
 unfold dD at h;refine H8 [.tmp 2] Tryz.func79 O O (Jr fun a=>(JLm (BL false) O (G6 (a (Jr fun b=>(JLm (I64 x) O (JLm (I64 x) O (JLh (BL (decide (x≠x))) iI O (JLm (BL (decide (x≠x))) O (G6 (b (H0 (AY BL h)))))))))))))

def Rt (x:Int) (y:Int):Option Int:=bnd (dD x) fun b=>bnd (dD y) fun a=>bif b then (bif a then (some 0) else (some (-1))) else (bif a then (some 1) else (bif decide (x < y) then (some (-1)) else (bif decide (y < x) then (some 1) else (some 0))))
theorem bV (x:Int) (y:Int) (r:Int) (h:Rt x y=some r):Pure Es 43 [I64 x,I64 y] (·=I64 r):=by
 unfold Rt at h;refine H8 [.tmp 4] Tryz.func43 O O (Jr fun p=>(JLm (I64 0) O (G6 (p (Jr fun q=>(JLm (I64 x) O ?_))))));obtain⟨b,s,h⟩:=Ge h;refine JLh (BL b) (Gz O (sB x b s) G38 ⟨O,O,ø⟩) O (JLm (BL b) O (G6 (q (Jr fun t=>(JLm (I64 y) O ?_)))));obtain⟨a,u,h⟩:=Ge h;refine JLh (BL a) (Gz O (sB y a u) G38 ⟨O,O,ø⟩) O (JLm (BL a) O (G6 (t (Js fun v=>Jr fun w=>(JLm (BL b) O (G6 (w (JCc O h (fun h hb=>?_) (fun h hb=>?_)))))))))
 ·refine Js fun z=>Jr fun a0=>(JLm (BL a) O (G6 (a0 (JCc O h (fun h hb=>?_) (fun h hb=>?_)))))
  ·refine Jr fun c=>(JLm (I64 0) O (G6 (c (H0 (AY I64 h)))))
  ·refine Gs (z (Jr fun d=>(JLm (I64 (-1)) O (G6 (d (H0 (AY I64 h)))))))
 ·refine Gs (v (Js fun e=>Jr fun f=>(JLm (BL a) O (G6 (f (JCc O h (fun h hb=>?_) (fun h hb=>?_)))))))
  ·refine Jr fun g=>(JLm (I64 1) O (G6 (g (H0 (AY I64 h)))))
  ·refine Gs (e (Js fun i=>Jr fun j=>(JLm (I64 x) O (JLm (I64 y) O (JLh (BL (decide (x < y))) J9 O (G6 (j (JCc O h (fun h hb=>?_) (fun h hb=>?_)))))))))
   ·refine Jr fun k=>(JLm (I64 (-1)) O (G6 (k (H0 (AY I64 h)))))
   ·refine Gs (i (Js fun l=>Jr fun m=>(JLm (I64 x) O (JLm (I64 y) O (JLh (BL (decide (y < x))) Zg O (G6 (m (JCc O h (fun h hb=>?_) (fun h hb=>?_)))))))))
    ·refine Jr fun n=>(JLm (I64 1) O (G6 (n (H0 (AY I64 h)))))
    ·refine Gs (l (Jr fun o=>(JLm (I64 0) O (G6 (o (H0 (AY I64 h)))))))

def iS (vals:AD):Option Int:=each (fun a d (c:Unit) b=>bif decide (a≠0) then (some a) else (b ())) (fun(c:Unit)=>some 0) vals 0 ()
theorem xP (vals:AD) (r:Int) (h:iS vals=some r):Pure Es 42 [E5 vals] (·=I64 r):=by
 unfold iS at h;refine H8 [.tmp 2] Tryz.func42 O O (Jr fun u=>(JLm (I64 0) O (G6 (u (Jr fun v=>(JLm (I64 0) O (G6 (v (Js fun w=>Jr fun x=>(JLm (E5 vals) O (JLl Gq O O O fun z=>(JLm (I64 0) O (G6 (x (Gi ?_)))))))))))))));obtain⟨a0,i,j,g,h⟩:=J7 h;refine GO h (fun a c=>[(3,I64 0),(6,E5 vals),(7,Er vals.length),(8,Er a)]) (fun a c=>[]) ⟨.q,ø,rfl⟩ ?_;clear h;intro a c d a3 a1;refine Jr fun k=>(JLh (BL (decide ((a:Int) < (vals.length:Int)))) J9 O (G6 (k (Js fun l=>Gp O (fun hb=>?_) (fun hb=>?_)))))
 ·have e:=Jq hb;obtain⟨b,a2,m,n,h⟩:=Hv d e;replace h:=Y2 j h;refine Gs (l (Js fun o=>Gi (Jr fun p=>(JLh (.AC [I64 b]) (H4 (f:=I64) (xs:=vals) (y:=b) O O O Gq m) O (JLh (I64 b) (Gh Ga) O (JLm (I64 b) O (G6 (p (Jr fun q=>(JLm (I64 b) O (JLm (I64 0) O (JLh (BL (decide (b≠0))) iI O (G6 (q (JCc O h (fun h hb=>?_) (fun h hb=>?_))))))))))))))))
  ·refine Jr fun s=>(JLm (I64 b) O (JLm (I64 b) O (G6 (s (H0 (AY I64 h))))))
  ·refine Gs (o (G2 (JLh (I64 ((a+1:Nat):Int)) (Hs (Hi e z)) O (JLm (I64 ((a+1:Nat):Int)) O (G6 (a1 _ _ (a+1) () (app1 n h) (by omega) ⟨.q,ø,rfl⟩))))))
 ·have h:=app1 g (Hw d (Hd hb));refine Hn (w (Jr fun t=>(JLm (I64 0) O (JLm (I64 0) O (G6 (t (H0 (AY I64 h))))))))

def jV (a:G9) (b:G9):Option Int:=bnd (Rt a.Load b.Load) fun c=>bnd (Rt a.AF b.AF) fun d=>bnd (iS [c,d]) fun e=>some e
abbrev Kf (a:G9):AG:=[I64 a.Load,I64 a.AF]
theorem QA (a:G9) (b:G9) (r:Int) (h:jV a b=some r):Pure Es 88 [.agg [I64 a.Load,I64 a.AF],.agg [I64 b.Load,I64 b.AF]] (·=I64 r):=by
 unfold jV at h;refine H8 [.tmp 4] Tryz.func88 O O (Jr fun f=>(JLh (.ptr 1213 0) (Q2 (cs:=(Kf a)) 1213 O O O O O) O (JLh (.ptr 1214 0) (Q2 (cs:=(Kf b)) 1214 O O O O O) O (JLm (I64 0) O (G6 (f (Gj [(2,.AC (Kf a)),(3,.ptr 1214 0)] [(1214,.box 126 (Kf b))] 1213 rfl rfl rfl ⟨GF,ø⟩ rfl (by exact⟨.ptr,.conv .same,ø⟩) (Gj [(2,.AC (Kf a)),(3,.AC (Kf b))] [] 1214 rfl rfl rfl ø rfl (by exact⟨.conv .same,.ptr,ø⟩) (Js fun g=>?_)))))))));obtain⟨c,i,h⟩:=Ge h;obtain⟨d,j,h⟩:=Ge h;obtain⟨e,k,h⟩:=Ge h;refine JC_d0 Jp zZ (Dq (.AC (Kf a)) (Gd bF) O (Dq (I64 a.Load) (Gh Ga) O (Dq (.AC (Kf b)) (Gd bF) O (Dq (I64 b.Load) (Gh Ga) O (Dq (I64 c) (Gz (args:=[I64 a.Load,I64 b.Load]) O (bV a.Load b.Load c i) pY ⟨O,O,O,O,ø⟩) O (Dq (.AC [I64 a.AF]) (Gd bE) O (Dq (I64 a.AF) (Gh Ga) O (Dq (.AC [I64 b.AF]) (Gd bE) O (Dq (I64 b.AF) (Gh Ga) O (Dq (I64 d) (Gz (args:=[I64 a.AF,I64 b.AF]) O (bV a.AF b.AF d j) pY ⟨O,O,O,O,ø⟩) O (Dq (E5 [c,d]) (Hb (xs:=[I64 c,I64 d]) O ⟨O,O,O,O,ø⟩ Gq Qv) O (Dq (I64 e) (Gz (args:=[E5 [c,d]]) O (xP [c,d] e k) G41 ⟨O,O,ø⟩) O (Dq (I64 e) G8 O (Dnil ?_))))))))))))));refine g (H0 (AY I64 h))

def Ze (a:G3) (b:G3):Option Int:=bnd (jV a.G9 b.G9) fun c=>some c
abbrev Kg (a:G3):AG:=[I64 a.G9.Load,I64 a.G9.AF,I64 a.Whole,I64 a.Half]
theorem qS (a:G3) (b:G3) (r:Int) (h:Ze a b=some r):Pure Es 87 [.agg [I64 a.G9.Load,I64 a.G9.AF,I64 a.Whole,I64 a.Half],.agg (G3.cs b)] (·=I64 r):=by
 unfold Ze at h;refine H8 [.tmp 4] Tryz.func87 O O (Jr fun d=>(JLh (.ptr 1211 0) (Q2 (cs:=(Kg a)) 1211 O O O O O) O (JLh (.ptr 1212 0) (Q2 (cs:=(Kg b)) 1212 O O O O O) O (JLm (I64 0) O (G6 (d (Gj [(2,.AC (Kg a)),(3,.ptr 1212 0)] [(1212,.box 128 (Kg b))] 1211 rfl rfl rfl ⟨GF,ø⟩ rfl (by exact⟨.ptr,.conv .same,ø⟩) (Gj [(2,.AC (Kg a)),(3,Em b)] [] 1212 rfl rfl rfl ø rfl (by exact⟨.conv .same,.ptr,ø⟩) ?_))))))));refine Jr fun e=>(JLh (.AC (Kg a)) (Gd Qb) O (JLh (.agg [I64 a.G9.Load,I64 a.G9.AF]) (Gf aM) O (JLh (Em b) (Gd Qb) O (JLh (.agg [I64 b.G9.Load,I64 b.G9.AF]) (Gf aM) O ?_))));obtain⟨c,f,h⟩:=Ge h;refine JLh (I64 c) (Gz O (QA a.G9 b.G9 c f) Hc4 ⟨O,O,O,O,ø⟩) O (JLm (I64 c) O (G6 (e (H0 (AY I64 h)))))

def bI (AA:AH) (Rp:AI->Prop):Option Prop:=each (fun a p (d:(Gw G9 G3)) j=>jp (fun g=>bnd (some (Gw.get d (G9.mk a.Load a.AF) (G3.mk (G9.mk 0 0) 0 0))) fun c=>jp (fun h=>bif decide (a.Size=40) then (chk (c.Whole+1) fun m=>h (m,c.Half)) else (bif decide (a.Size=20) then (chk (c.Half+1) fun n=>h (c.Whole,n)) else (g (d,c.Whole,c.Half)))) fun(f:Int×Int)=>g ((Gw.put d (G9.mk a.Load a.AF) (G3.mk (G9.mk a.Load a.AF) f.1 f.2)),f.1,f.2)) fun(o:(Gw G9 G3)×Int×Int)=>j o.1) (fun(d:(Gw G9 G3))=>Gdf (fun(e:G9×G3) (b:AI) i=>need (decide ((b.length+[e.2].length)*32<=140737488355328∧b.length+[e.2].length<=maxLen)) <| i (b++[e.2])) (fun(b:AI)=>bnd (zK (fun z0 z1=>Ze z0 z1) b) fun k=>some (Rp k)) (Gw.l d) []) AA 0 (Gw.empty:Gw G9 G3)
abbrev Kh:Nat×Jn:=(1146,.vec 128 4 (([]:AI).length) (([]:AI).map G3.av))
theorem QD (AA:AH) (Rp:AI->Prop) (p:Prop) (h:bI AA Rp=some p) (hp:p):Q4 Es 47 [E6 AA] [] (fun av L'=>∃ p:Nat,∃ r,Rp r∧av=.vec 1150 p 4 r.length∧L'=[(1150,.vec 128 4 p (r.map G3.av))]):=by
 unfold bI at h;refine Yc [] [.tmp 2] Tryz.func47 O O (nV O) (Jr fun e4=>(JLh (.vec 1146 (([]:AI).length) 4 (([]:AI).length)) (xU 1146 128 4 O O O) O (G6 (e4 (Jr fun e5=>(JLh (.mp 1152) (iJ 1152 G9.kv G3.av O O O) O (JLm (.mp 1152) O (G6 (e5 (Js fun e6=>Jr fun e7=>(JLm (E6 AA) O (JLl Hu O O O fun c2=>(JLm (I64 0) O (G6 (e7 (Gi ?_))))))))))))))));obtain⟨e8,c3,c4,a7,h⟩:=J7 h;refine GO h (fun i g=>[(3,.mp 1152),(12,E6 AA),(13,Er AA.length),(14,Er i)]) (fun i g=>[Kh,(1152,MP 172 G9.kv G3.av g)]) ⟨.q,⟨GG,fmQ,ø⟩,rfl⟩ ?_;clear h;intro i g a4 f4 e9;refine Jr fun c5=>(JLh (BL (decide ((i:Int) < (AA.length:Int)))) J9 O (G6 (c5 (Js fun c6=>Gp O (fun hb=>?_) (fun hb=>?_)))))
 ·have a5:=Jq hb;obtain⟨b,f1,c7,c8,h⟩:=Hv a4 a5;replace h:=Y2 c4 h;refine Gs (c6 ?_);obtain⟨c9,a8,h⟩:=Qm h;refine Jz (fun o:(Gw G9 G3)×Int×Int=>c9 o=some p) (fun o=>[(3,.mp 1152),(12,E6 AA),(13,Er AA.length),(14,Er i)]) (fun o=>[Kh,(1152,MP 172 G9.kv G3.av o.1),(1149,.box 128 [I64 b.Load,I64 b.AF,I64 o.2.1,I64 o.2.2])]) (fun Kj88 ej88=>?_) ?_
  ·refine Gi (Jr fun d0=>(JLh (Ek b) (H4 (f:=Box.av) (xs:=AA) (y:=b) O O O Hu c7) O (JLh (.agg (Box.cs b)) (Gf aC) O (JLh (.ptr 1147 0) (H9 1147 9 Re O O) O (Ha (u:=.AP) (H1 (u:=.agg (Box.cs b)) (ds:=(Box.cs b)) Z4 O O O O O O O O) (G6 (d0 ?_)))))));refine fzQ [(3,.mp 1152),(5,Ek b),(12,E6 AA),(13,Er AA.length),(14,Er i)] [Kh,(1152,MP 172 G9.kv G3.av g)] 1147 rfl rfl rfl ⟨GG,fmQ,ø⟩ rfl ?_;refine Jr fun d1=>(JLh (.AC ((Box.cs b).drop 5)) (Gd Yz) O (JLh (I64 b.Load) (Gh Ga) O (JLh (.AC ((Box.cs b).drop 6)) (Gd Zn) O (JLh (I64 b.AF) (Gh Ga) O (JLh (.agg [I64 b.Load,I64 b.AF]) (Jj (cs:=[I64 b.Load,I64 b.AF]) [(0,1),(1,1)] [I64 0,I64 0] [E0,E0] zD YM (zzQ O)) O (JLh (.ptr 1148 0) (H9 1148 2 tY O O) O (Ha (u:=.AP) (H1 (u:=.agg [I64 b.Load,I64 b.AF]) (ds:=[I64 b.Load,I64 b.AF]) rG O O O O O O O O) (G6 (d1 ?_)))))))));refine fzQ [(3,.mp 1152),(5,Ek b),(6,.AC [I64 b.Load,I64 b.AF]),(12,E6 AA),(13,Er AA.length),(14,Er i)] [Kh,(1152,MP 172 G9.kv G3.av g)] 1148 rfl rfl rfl ⟨GG,fmQ,ø⟩ rfl (Jr fun d2=>(JLm (.mp 1152) O (JLh (.agg [I64 b.Load,I64 b.AF]) (Gf aM) O ?_)));obtain⟨j,d3,h⟩:=Ge h;refine JLh (.agg (G3.cs j)) (((Sc d3) ▸ qV (av:=G3.av) (m:=g) (a:=(G9.mk b.Load b.AF)) (G3.mk (G9.mk 0 0) 0 0) (.agg #[E0,E0,E0,E0]) O O O O Gf2 mP Gb9 O)) O (JLh (.ptr 1149 0) (H9 1149 4 Rx O O) O (Ha (u:=.AP) (H1 (u:=.agg (G3.cs j)) (ds:=[I64 j.G9.Load,I64 j.G9.AF,I64 j.Whole,I64 j.Half]) cD O O O O O O O O) (G6 (d2 ?_))));refine Jr fun d4=>(JLh (.agg [I64 b.Load,I64 b.AF]) (Gf aM) O (JLh (.ptr 1149 0) (Jg Qb) O (Ha (u:=.AP) (H1 (u:=.agg [I64 b.Load,I64 b.AF]) (ds:=[I64 b.Load,I64 b.AF,I64 j.Whole,I64 j.Half]) rG O O O O O O O O) (G6 (d4 ?_)))));obtain⟨d5,a9,h⟩:=Qm h;refine Jz (fun k:Int×Int=>d5 k=some p) (fun k=>[(3,.mp 1152),(6,.AC [I64 b.Load,I64 b.AF]),(7,.ptr 1149 0),(12,E6 AA),(13,Er AA.length),(14,Er i)]) (fun k=>[Kh,(1152,MP 172 G9.kv G3.av g),(1149,.box 128 [I64 b.Load,I64 b.AF,I64 k.1,I64 k.2])]) (fun Kj94 ej94=>?_) ?_
   ·refine Jr fun d6=>(JLh (.AC ((Box.cs b).drop 2)) (Gd aR) O (JLh (U8 b.Size) (Gh Jm) O (G6 (d6 (Gi (Jr fun d7=>(JLh (BL (decide (b.Size=40))) Qj O (JLm (BL (decide (b.Size=40))) O (G6 (d7 (JCc O h (fun h hb=>?_) (fun h hb=>?_))))))))))))
    ·refine G2 (JLh (.ptr 1149 2) (Jg bD) O (JLh (I64 j.Whole) (Jo Ga) O ?_));obtain⟨x,d8,h⟩:=Hg h;refine JLh (I64 x) (Hs d8) O (JLh (.ptr 1149 2) (Jg bD) O (Ha (u:=.AP) (H1 (u:=I64 x) (ds:=[I64 b.Load,I64 b.AF,I64 x,I64 j.Half]) R9 O O O O O O O O) (G6 (ej94 _ _ (x,j.Half) h ⟨.q,⟨GG,fmQ,fbQ O .q,ø⟩,rfl⟩))))
    ·refine Jr fun d9=>(JLh (BL (decide (b.Size=20))) Qj O (JLm (BL (decide (b.Size=20))) O (G6 (d9 (JCc O h (fun h hb=>?_) (fun h hb=>?_))))))
     ·refine G2 (JLh (.ptr 1149 3) (Jg bC) O (JLh (I64 j.Half) (Jo Ga) O ?_));obtain⟨z,e0,h⟩:=Hg h;refine JLh (I64 z) (Hs e0) O (JLh (.ptr 1149 3) (Jg bC) O (Ha (u:=.AP) (H1 (u:=I64 z) (ds:=[I64 b.Load,I64 b.AF,I64 j.Whole,I64 z]) R9 O O O O O O O O) (G6 (ej94 _ _ (j.Whole,z) h ⟨.q,⟨GG,fmQ,fbQ O .q,ø⟩,rfl⟩))))
     ·refine Hn (ej88 _ _ (g,j.Whole,j.Half) h ⟨.q,⟨GG,fmQ,fbQ O .q,ø⟩,rfl⟩)
   ·intro k h;replace h:=app1 a9 h;refine G2 (JLm (.mp 1152) O (JLh (.agg [I64 b.Load,I64 b.AF]) (Gf aM) O (JLh (.agg [I64 b.Load,I64 b.AF,I64 k.1,I64 k.2]) (eE Ro) O (Ha (u:=.AP) (iU (m:=g) (a:=(G9.mk b.Load b.AF)) (v:=(G3.mk (G9.mk b.Load b.AF) k.1 k.2)) O O O O O O Gf2 mP) (G6 (ej88 _ _ ((Gw.put g (G9.mk b.Load b.AF) (G3.mk (G9.mk b.Load b.AF) k.1 k.2)),k.1,k.2) h ⟨.q,⟨GG,fmQ,fbQ O .q,ø⟩,rfl⟩))))))
  ·intro o h;replace h:=app1 a8 h;refine G2 (JLh (I64 ((i+1:Nat):Int)) (Hs (Hi a5 c2)) O (JLm (I64 ((i+1:Nat):Int)) O (G6 (e9 _ _ (i+1) o.1 (app1 c8 h) (by omega) ⟨.q,⟨GG,fmQ,ø⟩,rfl⟩))))
 ·have h:=app1 a7 (Hw a4 (Hd hb));refine Hn (e6 (Jr fun b0=>(JLh (.vec 1150 (([]:AI).length) 4 (([]:AI).length)) (xU 1150 128 4 O O O) O (G6 (b0 (Js fun b1=>Jr fun b2=>(JLm (.mp 1152) O (JLh (.it 1153) (G94 1153 (m:=g) O O O O mP) O (G6 (b2 (Gi ?_)))))))))));obtain⟨e1,b3,b4,a6,h⟩:=G6f h;refine G8e (Gw.size g) (fun n (c:AI)=>MInv e1 b3 (Gw.l g) n c) (fun n c=>[(8,.vec 1150 c.length 4 c.length),(47,.it 1153)]) (fun n c=>[Kh,(1152,MP 172 G9.kv G3.av g),(1150,.vec 128 4 c.length (c.map G3.av)),(1153,.iter (.mp 1152) (Gw.size g) n)]) [] (MInv.start h hp) ⟨.q,⟨GG,⟨_,O,.map⟩,GG,⟨_,O,.iter O⟩,ø⟩,O⟩ ?_;clear h hp;intro n c a0 f2 e2;refine Jr fun a1=>nQ O O O (H2a (m:=g) O O O O) ?_;intro u_ L_ hn_;rcases hn_ with ⟨t,d,s,a2,rfl,rfl⟩ | ⟨b5,rfl,rfl⟩
  ·obtain⟨f3,h,e3,a3⟩:=a0.step s a2;replace h:=JU b4 h;refine JLh (BL true) Gt O (G6 (a1 (Js fun b6=>G90 O (Gs (b6 (Gi (Jr fun b7=>(JLh (.tup [.agg [I64 d.1.Load,I64 d.1.AF],.agg (G3.cs d.2)]) (G99 (kv:=G9.kv) (av:=G3.av) (m:=g) (q:=t) (seen:=n) (e:=d) O O O O s) O (JLh (.agg (G3.cs d.2)) Gt O (JLh (.ptr 1151 0) (H9 1151 4 Rx O O) O (Ha (u:=.AP) (H1 (u:=.agg (G3.cs d.2)) (ds:=[I64 d.2.G9.Load,I64 d.2.G9.AF,I64 d.2.Whole,I64 d.2.Half]) cD O O O O O O O O) (G6 (b7 ?_)))))))))))));refine Gj [(8,.vec 1150 c.length 4 c.length),(10,Em d.2),(47,.it 1153)] [Kh,(1152,MP 172 G9.kv G3.av g),(1150,.vec 128 4 c.length (c.map G3.av)),(1153,.iter (.mp 1152) (Gw.size g) (n++[t]))] 1151 rfl rfl rfl ⟨GG,fmQ,GG,⟨_,rfl,.iter rfl⟩,ø⟩ rfl (by exact⟨.conv .same,.ptr,.conv .same,ø⟩) (G2 (JLm (.vec 1150 c.length 4 c.length) O (JLh (.agg (G3.cs d.2)) (Gf Ro) O (JLh (Ec [d.2]) (Hb (xs:=[.agg (G3.cs d.2)]) O ⟨O,O,ø⟩ Hj Rx) O ?_))));obtain⟨b8,h⟩:=Hz h;refine JLh (.vec 1150 ((c++[d.2]).length) 4 ((c++[d.2]).length)) (kM (f:=G3.av) (xs:=c) (ys:=[d.2]) (ver:=c.length) (AZ:=(c++[d.2]).length) rfl rfl rfl rfl Hj kP b8 (fun _=>rfl) (.inl rfl) (by simp)) O (JLm (.vec 1150 ((c++[d.2]).length) 4 ((c++[d.2]).length)) O (G6 (e2 _ _ (n++[t]) (c++[d.2]) (a3 _ (Sc h).symm) (QP (Sa s).1 a2) ⟨.q,⟨GG,⟨_,O,.map⟩,GG,⟨_,O,.iter O⟩,ø⟩,O⟩)))
  ·obtain⟨p_,h,hp⟩:=a0.done b5;replace h:=app1 a6 h;refine JLh (BL false) Gt O (G6 (a1 (Js fun f0=>QF O (Hn (b1 (Jr fun b9=>(JLm (.vec 1150 c.length 4 c.length) O ?_)))))));obtain⟨w,c0,h⟩:=Ge h;refine JLh (.tup []) (H29 (f:=G3.av) (cmp:=(fun z0 z1=>Ze z0 z1)) (xs:=c) (r:=w) G3.vs O G4c ZB (fun _=>O) (fun _=>O) (fun _=>J1f O) G36 G35 O O O O O c0 (fun z0 z1 q hq=>qS z0 z1 q hq) O) O (G6 (b9 (Jr fun c1=>(JLm (.vec 1150 c.length 4 c.length) O (JLm (.vec 1150 c.length 4 c.length) O (G6 (c1 (pG 2 O O (fun hn_=>H0 (⟨[.vec 1150 c.length 4 c.length],[(1150,.vec 128 4 c.length (w.map G3.av))],⟨GG,ø⟩,O,⟨⟨_,O,.conv .same⟩,ø⟩,c.length,w,Eq.mpr (Sc h) hp,congrArg (fun n_:Nat=>(.vec 1150 c.length 4 n_:AV)) (hn_.trans (Ss _)),O⟩))))))))))
theorem QC (S_:AH->Option AI) (hS_:∀ AA r,S_ AA=some r->∃ p:Prop,bI AA (fun r_=>r_=r)=some p∧p) (AA:AH) (r:AI) (h:S_ AA=some r):Q4 Es 47 [E6 AA] [] (fun av L'=>∃ p:Nat,av=.vec 1150 p 4 r.length∧L'=[(1150,.vec 128 4 p (r.map G3.av))]):=by
 obtain⟨p,a,b⟩:=hS_ AA r h;exact(QD AA _ p a b).mono (fun av L hh=>by obtain⟨q,r_,rfl,ha,hb⟩:=hh; exact⟨q,ha,hb⟩)
end
end Go.Proofs.YtibhpogonkdiaaaGreat
