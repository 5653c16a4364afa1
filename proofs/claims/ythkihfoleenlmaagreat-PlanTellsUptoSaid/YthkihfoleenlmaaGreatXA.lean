/- Walks of functions. -/
import Derived.Test.YthkihfoleenlmaaGreatSortLay
import Derived.Test.YthkihfoleenlmaaGreatApl
set_option maxRecDepth 100000
set_option maxHeartbeats 1000000
set_option linter.unusedVariables false
set_option linter.unusedSimpArgs false
namespace Go.Proofs.YthkihfoleenlmaaGreat
open Go.RowKit
noncomputable section
abbrev Ek:=Tryz.prog
structure Hw where
 n:Int
 low:Int
 high:Int
 deriving DecidableEq,Inhabited
def Hw.cs (x:Hw):List AV:=[I64 x.n,I64 x.low,I64 x.high]
def Hw.av (x:Hw):AV:=.agg x.cs
structure G6 where
 Bay:Int
 Row:Int
 Deck:Bool
 Tiers:Int
 Height:Int
 Kilos20:Int
 Kilos40:Int
 Lash:Int
 Plugs:List Int
 X:Int
 Y:Int
 Z:Int
 deriving DecidableEq,Inhabited
def G6.cs (x:G6):List AV:=[I64 x.Bay,I64 x.Row,BL x.Deck,I64 x.Tiers,I64 x.Height,I64 x.Kilos20,I64 x.Kilos40,I64 x.Lash,E2 x.Plugs,I64 x.X,I64 x.Y,I64 x.Z]
def G6.av (x:G6):AV:=.agg x.cs
abbrev Ef (x:G6):AV:=.dptr (G6.cs x)
abbrev E4:=LS 12 G6.av
structure H3 where
 Bay:Int
 Rows:List Int
 deriving DecidableEq,Inhabited
def H3.cs (x:H3):List AV:=[I64 x.Bay,E2 x.Rows]
def H3.av (x:H3):AV:=.agg x.cs
abbrev E5:=LS 2 H3.av
structure Light where
 Kilos:Int
 X:Int
 Y:Int
 Z:Int
 deriving DecidableEq,Inhabited
def Light.cs (x:Light):List AV:=[I64 x.Kilos,I64 x.X,I64 x.Y,I64 x.Z]
def Light.av (x:Light):AV:=.agg x.cs
structure Row where
 Draught:Int
 Kilos:Int
 Buoy:Int
 Metacentre:Int
 xU:Int
 deriving DecidableEq,Inhabited
def Row.cs (x:Row):List AV:=[I64 x.Draught,I64 x.Kilos,I64 x.Buoy,I64 x.Metacentre,I64 x.xU]
def Row.av (x:Row):AV:=.agg x.cs
abbrev E8:=LS 5 Row.av
structure Frame where
 X:Int
 Light:Int
 Share:Int
 Shear:Int
 Bend:Int
 deriving DecidableEq,Inhabited
def Frame.cs (x:Frame):List AV:=[I64 x.X,I64 x.Light,I64 x.Share,I64 x.Shear,I64 x.Bend]
def Frame.av (x:Frame):AV:=.agg x.cs
abbrev E7:=LS 5 Frame.av
structure Hg where
 Kilos:Int
 X:Int
 Y:Int
 Z:Int
 Surface:Int
 Steps:List Int
 deriving DecidableEq,Inhabited
def Hg.cs (x:Hg):List AV:=[I64 x.Kilos,I64 x.X,I64 x.Y,I64 x.Z,I64 x.Surface,E2 x.Steps]
def Hg.av (x:Hg):AV:=.agg x.cs
abbrev Ei (x:Hg):AV:=.dptr (Hg.cs x)
abbrev E9:=LS 6 Hg.av
structure Gk where
 Tolerance:Int
 Trim:Int
 List_:Int
 Stability:Int
 deriving DecidableEq,Inhabited
def Gk.cs (x:Gk):List AV:=[I64 x.Tolerance,I64 x.Trim,I64 x.List_,I64 x.Stability]
def Gk.av (x:Gk):AV:=.agg x.cs
structure Gq where
 Columns:List G6
 Covers:List H3
 Light:Light
 Rows:List Row
 Frames:List Frame
 Tanks:List Hg
 Gk:Gk
 deriving DecidableEq,Inhabited
def Gq.cs (x:Gq):List AV:=[E4 x.Columns,E5 x.Covers,I64 x.Light.Kilos,I64 x.Light.X,I64 x.Light.Y,I64 x.Light.Z,E8 x.Rows,E7 x.Frames,E9 x.Tanks,I64 x.Gk.Tolerance,I64 x.Gk.Trim,I64 x.Gk.List_,I64 x.Gk.Stability]
def Gq.av (x:Gq):AV:=.agg x.cs
abbrev Ed (x:Gq):AV:=.dptr (Gq.cs x)
structure Hk where
 e0:Int
 e1:Int
 e2:Int
 deriving DecidableEq,Inhabited
def Hk.cs (x:Hk):List AV:=[I64 x.e0,I64 x.e1,I64 x.e2]
def Hk.av (x:Hk):AV:=.agg x.cs
def Hk.ks (x:Hk):List Value:=[.int .i64 x.e0,.int .i64 x.e1,.int .i64 x.e2]
def Hk.kv (x:Hk):Value:=.agg x.ks.toArray
structure Slot where
 G6:Int
 Tier:Int
 Half:Int
 deriving DecidableEq,Inhabited
def Slot.cs (x:Slot):List AV:=[I64 x.G6,I64 x.Tier,U8 x.Half]
def Slot.av (x:Slot):AV:=.agg x.cs
abbrev Eh (x:Slot):AV:=.dptr (Slot.cs x)
abbrev E6:=LS 3 Slot.av
structure G2 where
 Box:Int
 Slot:Slot
 deriving DecidableEq,Inhabited
def G2.cs (x:G2):List AV:=[I64 x.Box,I64 x.Slot.G6,I64 x.Slot.Tier,U8 x.Slot.Half]
def G2.av (x:G2):AV:=.agg x.cs
abbrev Ee (x:G2):AV:=.dptr (G2.cs x)
abbrev E1:=LS 4 G2.av
structure Ya where
 States:List (List G2)
 Water:List (List Int)
 deriving DecidableEq,Inhabited
def Ya.cs (x:Ya):List AV:=[LS 1 (E1) x.States,LS 1 (E2) x.Water]
def Ya.av (x:Ya):AV:=.agg x.cs
namespace XAF
theorem Jdd (a b:Hk):rT Ek 4 186 [.int .i64 a.e0,.int .i64 a.e1,.int .i64 a.e2] [.int .i64 b.e0,.int .i64 b.e1,.int .i64 b.e2]=some (decide (a=b)):=by
 refine(show _=some ((a.e0==b.e0)&&((a.e1==b.e1)&&((a.e2==b.e2)&&true))) by kernel_rfl).trans (congrArg some ?_)
 rw [Bool.eq_iff_iff]
 simp only [Pp,beq_iff_eq,Pq,Bool.and_true]
 constructor
 .intro h; obtain⟨_,_,_⟩:=a; obtain⟨_,_,_⟩:=b; simp_all
 .intro h; subst h; simp
theorem H78:iC Ek 256 3=true:=by kernel_rfl
theorem Zu:iC Ek 71 12=true:=by kernel_rfl
theorem Zd:iC Ek 73 2=true:=by kernel_rfl
theorem G00:Jea Ek 186 3 1=true:=by kernel_rfl
theorem H03:H7 Ek 100=true:=by kernel_rfl
theorem QP:H7 Ek 184=true:=by kernel_rfl
theorem vN:Jm Ek 256 0 0=true:=by kernel_rfl
theorem ZF:Jm Ek 256 1 1=true:=by kernel_rfl
theorem ZE:Jm Ek 256 2 2=true:=by kernel_rfl
theorem Hu:Jm Ek 32 0 0=true:=by kernel_rfl
theorem Qh:Jm Ek 32 1 1=true:=by kernel_rfl
theorem Qr:Jm Ek 37 0 0=true:=by kernel_rfl
theorem bU:Jm Ek 71 0 0=true:=by kernel_rfl
theorem bT:Jm Ek 71 1 1=true:=by kernel_rfl
theorem kN:Jm Ek 71 10 10=true:=by kernel_rfl
theorem kM:Jm Ek 71 11 11=true:=by kernel_rfl
theorem bS:Jm Ek 71 2 2=true:=by kernel_rfl
theorem bR:Jm Ek 71 3 3=true:=by kernel_rfl
theorem dA:Jm Ek 71 4 4=true:=by kernel_rfl
theorem lY:Jm Ek 71 5 5=true:=by kernel_rfl
theorem lX:Jm Ek 71 6 6=true:=by kernel_rfl
theorem lW:Jm Ek 71 7 7=true:=by kernel_rfl
theorem Rz:Jm Ek 71 8 8=true:=by kernel_rfl
theorem lV:Jm Ek 71 9 9=true:=by kernel_rfl
theorem aI:Jm Ek 73 0 0=true:=by kernel_rfl
theorem Qg:Jm Ek 73 1 1=true:=by kernel_rfl
theorem jM:fE Ek 185 186 3=true:=by kernel_rfl
theorem Jd:Ek.follows .mixedOrders=true:=by kernel_rfl
theorem Zf:placesOf Ek 256=some [(0,1),(1,1),(2,1)]:=by kernel_rfl
theorem J2:Jc Ek 22=true:=by kernel_rfl
theorem R4:Jc Ek 23=true:=by kernel_rfl
theorem Gb:Jc Ek 3=true:=by kernel_rfl
theorem Qe:Jc Ek 34=true:=by kernel_rfl
theorem Ye:Jc Ek 4=true:=by kernel_rfl
theorem He:Jc Ek 51=true:=by kernel_rfl
theorem Q6:Jc Ek 74=true:=by kernel_rfl
theorem Gcf:Rc Ek 256 3=true:=by kernel_rfl
theorem oR:Rc Ek 71 12=true:=by kernel_rfl
theorem jL:Rc Ek 73 2=true:=by kernel_rfl
theorem Hd:sliceB Ek 22 71 12=true:=by kernel_rfl
theorem J1:sliceB Ek 23 73 2=true:=by kernel_rfl
theorem nM:sliceB Ek 254 256 3=true:=by kernel_rfl
theorem nL:sliceB Ek 261 5 1=true:=by kernel_rfl
theorem Hn:sliceB Ek 34 74 1=true:=by kernel_rfl
theorem Gz:sliceB Ek 51 3 1=true:=by kernel_rfl
theorem QC:(Ek.info? 186).bind (fun i=>i.zero.map Value.cells)=some (List.toArray [E0,E0,E0]):=by kernel_rfl
theorem cC:(Ek.info? 256).bind (fun i=>i.zero.map Value.cells)=some (List.toArray [E0,E0,E0]):=by kernel_rfl
theorem tM:Yf Ek 256 3=true:=by kernel_rfl
theorem YY:Yf Ek 5 1=true:=by kernel_rfl
theorem jS:Yf Ek 71 12=true:=by kernel_rfl
theorem fF:Yf Ek 73 2=true:=by kernel_rfl
theorem xC:(Ek.info? 3).bind (·.zero)=some E0:=by kernel_rfl
theorem HM:qP Ek 186 Hk.kv:=qP.of_eq Hk.ks (by kernel_rfl) (fun a b h=>by simp only [Hk.ks,List.cons.injEq,Value.int.injEq,Value.bool.injEq,Value.string.injEq,true_and,and_true] at h; obtain⟨_,_,_⟩:=a; obtain⟨_,_,_⟩:=b; simp_all) 4 (by decide) (fun a b=>Jdd a b) (fun a=>by kernel_rfl) (fun a=>by simp [Instr.sameBits,Hk.ks])
end XAF
open XAF

def fB (l:List Hw):Option Bool:=
 each (fun a d (c:Unit) b=>
  bif ((decide (a.n < a.low))||(decide (a.high < a.n))) then
  (some false)
  else
  (b ()))
 (fun(c:Unit)=>
  some true) l 0 ()
theorem tD (l:List Hw) (r:Bool) (h:fB l=some r):Pure Ek 184 [LS 3 Hw.av l] (·=BL r):=by
 unfold fB at h
 refine Gy [.tmp 2] Tryz.func184 G G (Jr fun x=>(JLm (BL false) G (G5 (x (Js fun z=>Jr fun a0=>(JLm (LS 3 Hw.av l) G (JLl nM G G G fun a1=>(JLm (I64 0) G (G5 (a0 (Gf ?_)))))))))))
 obtain⟨a2,i,j,g,h⟩:=Hy h
 refine H8 (fun b (c:Unit)=>each a2 i (List.drop b l) b c=some r) (fun b c=>[(5,LS 3 Hw.av l),(6,Ej l.length),(7,Ej b)]) (fun b c=>[]) (fun b=>l.length - b) 0 () h ⟨(.sm G G),U,G⟩ ?_
 clear h
 intro b c d a5 a3
 refine Jr fun k=>(JLh (BL (decide ((b:Int) < (l.length:Int)))) (Hr G G G) G (G5 (k (Js fun m=>Gg G (fun hb=>?_) (fun hb=>?_)))))
 ·
  have e:=Je hb
  obtain⟨a,a4,o,p,h⟩:=Hh d e
  replace h:=Rx j h
  refine Gn (m (Js fun q=>Gf (Jr fun s=>(JLh (.dptr [I64 a.n,I64 a.low,I64 a.high]) (Gr (f:=Hw.av) (xs:=l) (y:=a) G G G nM o G) G (JLh (.agg [I64 a.n,I64 a.low,I64 a.high]) (Gj H78 G G G) G (JLh (.ptr 1157 0) (Jp 1157 3 tM G G) G (J7 (u:=.junk) (Hv (u:=.agg [I64 a.n,I64 a.low,I64 a.high]) (ds:=[I64 a.n,I64 a.low,I64 a.high]) Gcf G G G G G G G G) (G5 (s (fzQ [(4,.dptr [I64 a.n,I64 a.low,I64 a.high]),(5,LS 3 Hw.av l),(6,Ej l.length),(7,Ej b)] [] 1157 rfl rfl rfl U rfl ?_))))))))))
  refine Jr fun t=>(JLh (.dptr [I64 a.n,I64 a.low,I64 a.high]) (Ga vN G G G) G (JLh (I64 a.n) (Ge Gb G G G) G (JLh (.dptr [I64 a.low,I64 a.high]) (Ga ZF G G G) G (JLh (I64 a.low) (Ge Gb G G G) G (JLh (BL (decide (a.n < a.low))) (Hr G G G) G (JLm (BL (decide (a.n < a.low))) G (JLo (.dptr [I64 a.n,I64 a.low,I64 a.high]) [] G .scf U (fun hc=>Ga vN G G G) G (JLo (I64 a.n) [17] G .scf ⟨Ua,U⟩ (fun hc=>Ge Gb G G G) G (JLo (.dptr [I64 a.high]) [] G .scf U (fun hc=>Ga ZE G G G) G (JLo (I64 a.high) [19] G .scf ⟨Ua,U⟩ (fun hc=>Ge Gb G G G) G (JLo (BL (decide (a.high < a.n))) [18,20] G .scf ⟨Ua,Ua,U⟩ (fun hc=>dE G G G) G (JLh (BL ((decide (a.n < a.low))||(decide (a.high < a.n)))) (Rm G G G G) G (G5 (t ?_))))))))))))))
  refine JCc G h ?_ ?_<;>intro h hb
  ·
   refine Jr fun v=>(JLm (BL false) G (G5 (v (Gs (fin1 BL h)))))
  ·
   refine Gn (q (G1 (JLh (I64 ((b+1:Nat):Int)) (Hs (Hb e a1) G G G) G (JLm (I64 ((b+1:Nat):Int)) G (G5 (a3 _ _ (b+1) () (app1 p h) (by omega) ⟨(.sm G G),U,rfl⟩))))))
 ·
  have h:=app1 g (Hi d (H6 hb))
  refine H9 (z (Jr fun w=>(JLm (BL true) G (G5 (w (Gs (fin1 BL h)))))))

def iD (c:G6):Option Bool:=
 each (fun d a (f:Unit) e=>
  wrp (c.Tiers - 1) fun g=>
  bnd (fB [(Hw.mk d 0 g)]) fun b=>
  bnd (bif ((!(!b))&&(decide (0 < (a:Int)))) then some (IntKind.i64.wrap ((a:Int) - 1)) else some 0) fun h=>
  bnd (bif ((!(!b))&&(decide (0 < (a:Int)))) then Jo c.Plugs h some else some default) fun i=>
  bif ((!b)||((decide (0 < (a:Int)))&&(decide (d≤i)))) then
  (some false)
  else
  (e ()))
 (fun(f:Unit)=>
  bnd (fB [(Hw.mk c.Bay 0 39),(Hw.mk c.Row 0 30),(Hw.mk c.Tiers 1 10),(Hw.mk c.Height 0 40000),(Hw.mk c.Kilos20 0 500000000),(Hw.mk c.Kilos40 0 500000000),(Hw.mk c.Lash 0 1000000000000),(Hw.mk c.X (-500000) 500000),(Hw.mk c.Y (-500000) 500000),(Hw.mk c.Z (-500000) 500000)]) fun j=>
  some j) c.Plugs 0 ()
abbrev Em (c:G6):List Hw:=[(Hw.mk c.Bay 0 39),(Hw.mk c.Row 0 30),(Hw.mk c.Tiers 1 10),(Hw.mk c.Height 0 40000),(Hw.mk c.Kilos20 0 500000000),(Hw.mk c.Kilos40 0 500000000),(Hw.mk c.Lash 0 1000000000000),(Hw.mk c.X (-500000) 500000),(Hw.mk c.Y (-500000) 500000),(Hw.mk c.Z (-500000) 500000)]
abbrev En (c:G6):List AV:=[I64 c.Tiers,I64 c.Height,I64 c.Kilos20,I64 c.Kilos40,I64 c.Lash,E2 c.Plugs,I64 c.X,I64 c.Y,I64 c.Z]
abbrev Eo (c:G6):List AV:=[I64 c.Lash,I64 0,I64 1000000000000]
abbrev Ep (c:G6):List AV:=[I64 c.Kilos20,I64 0,I64 500000000]
abbrev Er (c:G6):List AV:=[I64 c.Kilos40,I64 0,I64 500000000]
abbrev Es (c:G6):List AV:=[I64 c.X,I64 (-500000),I64 500000]
abbrev Eu (c:G6):List AV:=[I64 c.Y,I64 (-500000),I64 500000]
abbrev Ev (c:G6):List AV:=[I64 c.Z,I64 (-500000),I64 500000]
abbrev Ew (c:G6):List AV:=[I64 c.Height,I64 0,I64 40000]
theorem G31 (c:G6) (r:Bool) (h:iD c=some r):Pure Ek 100 [.agg (G6.cs c)] (·=BL r):=by
 unfold iD at h
 refine Gy [.tmp 2] Tryz.func100 G G (Jr fun a7=>(JLh (.ptr 1111 0) (Jy (cs:=(G6.cs c)) 1111 G G G G G) G (JLm (BL false) G (G5 (a7 (Gw [(1,Ef c)] [] 1111 rfl rfl rfl U rfl (by exact⟨.ptr,U⟩) (Jr fun a8=>(JLm (.fn 184 []) G (G5 (a8 (Js fun a9=>Jr fun b0=>(JLh (.dptr [E2 c.Plugs,I64 c.X,I64 c.Y,I64 c.Z]) (Ga Rz G G G) G (JLh (E2 c.Plugs) (Ge He G G G) G (JLl Gz G G G fun b1=>(JLm (I64 0) G (G5 (b0 (Gf ?_))))))))))))))))))
 obtain⟨b2,o,p,n,h⟩:=Hy h
 refine H8 (fun a (j:Unit)=>each b2 o (List.drop a c.Plugs) a j=some r) (fun a j=>[(1,Ef c),(3,.fn 184 []),(7,E2 c.Plugs),(8,Ej c.Plugs.length),(9,Ej a)]) (fun a j=>[]) (fun a=>c.Plugs.length - a) 0 () h ⟨(.sm G G),U,rfl⟩ ?_
 clear h
 intro a j k b6 b3
 refine Jr fun q=>(JLh (BL (decide ((a:Int) < (c.Plugs.length:Int)))) (Hr G G G) G (G5 (q (Js fun s=>Gg G (fun hb=>?_) (fun hb=>?_)))))
 ·
  have l:=Je hb
  obtain⟨d,b5,t,v,h⟩:=Hh k l
  replace h:=Rx p h
  refine Gn (s (Js fun w=>Gf (Jr fun x=>(JLm (Ej a) G (JLh (.dptr [I64 d]) (Gr (f:=I64) (xs:=c.Plugs) (y:=d) G G G Gz t G) G (JLh (I64 d) (Ge Gb G G G) G (JLm (Ej a) G (JLm (I64 d) G (G5 (x (Jr fun z=>(JLm (.fn 184 []) G (JLm (I64 d) G (JLh (.dptr (En c)) (Ga bR G G G) G (JLh (I64 c.Tiers) (Ge Gb G G G) G ?_)))))))))))))))
  obtain⟨e,a0,h⟩:=J6f h
  refine JLh (I64 e) (kX a0 G G G) G (JLh (.agg [I64 d,I64 0,I64 e]) (Jq (cs:=[I64 d,I64 0,I64 e]) [(0,1),(1,1),(2,1)] [I64 0,I64 0,I64 0] [E0,E0,E0] Zf cC (zzQ G) G G) G (JLh (LS 3 Hw.av [(Hw.mk d 0 e)]) (Hf (xs:=[.agg [I64 d,I64 0,I64 e]]) G ⟨G,G,U⟩ nM tM G G G G) G ?_))
  obtain⟨g,a1,h⟩:=Gd h
  refine JLh (BL g) (fR (args:=[LS 3 Hw.av [(Hw.mk d 0 e)]]) (caps:=[]) G G (tD [(Hw.mk d 0 e)] g a1) QP ⟨G,G,U⟩ G) G (JLh (BL (!g)) (Qj (b:=g) G G) G (JLm (BL (!g)) G (JLo (Ej a) [] G .scf U (fun hc=>G3 G G) G (JLo (BL (decide (0 < (a:Int)))) [24] G .scf ⟨Ua,U⟩ (fun hc=>dE G G G) G (JLo (BL (decide (0 < (a:Int)))) [25] G .scf ⟨Ua,U⟩ (fun hc=>G3 G G) G (JLo (I64 d) [] G .optt U (fun hc=>G3 G G) G (JLo (.dptr [E2 c.Plugs,I64 c.X,I64 c.Y,I64 c.Z]) [] G .optt U (fun hc=>Ga Rz G G G) G (JLo (E2 c.Plugs) [28] G .optt ⟨Ua,U⟩ (fun hc=>Ge He G G G) G (JLo (Ej a) [] G .optt U (fun hc=>G3 G G) G ?_)))))))))
  obtain⟨b4,a2,h⟩:=Gd h
  refine JLo (I64 b4) [30] G .optt ⟨Ua,U⟩ (fun hc=>kX (Pc (Gv hc a2)) G G G) G ?_
  obtain⟨i,a3,h⟩:=Gd h
  refine JLo (.dptr [I64 i]) [29,31] G .optt ⟨Ua,Ua,U⟩ (fun hc=>(match Jt (Gv hc a3) with | ⟨_,hm_,hy_⟩=>Gr (f:=I64) (xs:=c.Plugs) (y:=i) G G G Gz hy_ hm_)) G (JLo (I64 i) [32] G .optt ⟨Ua,U⟩ (fun hc=>Ge Gb G G G) G (JLo (BL (decide (d≤i))) [27,33] G .optt ⟨Ua,Ua,U⟩ (fun hc=>rQ G G G) G (G9 (u:=BL ((decide (0 < (a:Int)))&&(decide (d≤i)))) [(26,BL (decide (0 < (a:Int)))),(34,_)] G G G .scf ⟨.all id,.part,U⟩ (fun hc=>J9 G G G G) ?_)))
  refine JLh (BL ((!g)||((decide (0 < (a:Int)))&&(decide (d≤i))))) (Rm G G G G) G (G5 (z (JCc G h (fun h hb=>?_) (fun h hb=>?_))))
  ·
   refine Jr fun a4=>(JLm (BL false) G (G5 (a4 (Gs (fin1 BL h)))))
  ·
   refine Gn (w (G1 (JLh (I64 ((a+1:Nat):Int)) (Hs (Hb l b1) G G G) G (JLm (I64 ((a+1:Nat):Int)) G (G5 (b3 _ _ (a+1) () (app1 v h) (by omega) ⟨(.sm G G),U,rfl⟩))))))
 ·
  have h:=app1 n (Hi k (H6 hb))
  refine H9 (a9 ?_)
  refine Jr fun a5=>(JLm (.fn 184 []) G (JLh (Ef c) (Ga bU G G G) G (JLh (I64 c.Bay) (Ge Gb G G G) G (JLh (.agg [I64 c.Bay,I64 0,I64 39]) (Jq (cs:=[I64 c.Bay,I64 0,I64 39]) [(0,1),(1,1),(2,1)] [I64 0,I64 0,I64 0] [E0,E0,E0] Zf cC (zzQ G) G G) G (JLh (.dptr [I64 c.Row,BL c.Deck,I64 c.Tiers,I64 c.Height,I64 c.Kilos20,I64 c.Kilos40,I64 c.Lash,E2 c.Plugs,I64 c.X,I64 c.Y,I64 c.Z]) (Ga bT G G G) G (JLh (I64 c.Row) (Ge Gb G G G) G (JLh (.agg [I64 c.Row,I64 0,I64 30]) (Jq (cs:=[I64 c.Row,I64 0,I64 30]) [(0,1),(1,1),(2,1)] [I64 0,I64 0,I64 0] [E0,E0,E0] Zf cC (zzQ G) G G) G (JLh (.dptr (En c)) (Ga bR G G G) G (JLh (I64 c.Tiers) (Ge Gb G G G) G (JLh (.agg [I64 c.Tiers,I64 1,I64 10]) (Jq (cs:=[I64 c.Tiers,I64 1,I64 10]) [(0,1),(1,1),(2,1)] [I64 0,I64 0,I64 0] [E0,E0,E0] Zf cC (zzQ G) G G) G (JLh (.dptr [I64 c.Height,I64 c.Kilos20,I64 c.Kilos40,I64 c.Lash,E2 c.Plugs,I64 c.X,I64 c.Y,I64 c.Z]) (Ga dA G G G) G (JLh (I64 c.Height) (Ge Gb G G G) G (JLh (.agg (Ew c)) (Jq (cs:=(Ew c)) [(0,1),(1,1),(2,1)] [I64 0,I64 0,I64 0] [E0,E0,E0] Zf cC (zzQ G) G G) G ?_)))))))))))))
  refine JLh (.dptr [I64 c.Kilos20,I64 c.Kilos40,I64 c.Lash,E2 c.Plugs,I64 c.X,I64 c.Y,I64 c.Z]) (Ga lY G G G) G (JLh (I64 c.Kilos20) (Ge Gb G G G) G (JLh (.agg (Ep c)) (Jq (cs:=(Ep c)) [(0,1),(1,1),(2,1)] [I64 0,I64 0,I64 0] [E0,E0,E0] Zf cC (zzQ G) G G) G (JLh (.dptr [I64 c.Kilos40,I64 c.Lash,E2 c.Plugs,I64 c.X,I64 c.Y,I64 c.Z]) (Ga lX G G G) G (JLh (I64 c.Kilos40) (Ge Gb G G G) G (JLh (.agg (Er c)) (Jq (cs:=(Er c)) [(0,1),(1,1),(2,1)] [I64 0,I64 0,I64 0] [E0,E0,E0] Zf cC (zzQ G) G G) G (JLh (.dptr [I64 c.Lash,E2 c.Plugs,I64 c.X,I64 c.Y,I64 c.Z]) (Ga lW G G G) G (JLh (I64 c.Lash) (Ge Gb G G G) G (JLh (.agg (Eo c)) (Jq (cs:=(Eo c)) [(0,1),(1,1),(2,1)] [I64 0,I64 0,I64 0] [E0,E0,E0] Zf cC (zzQ G) G G) G (JLh (.dptr [I64 c.X,I64 c.Y,I64 c.Z]) (Ga lV G G G) G (JLh (I64 c.X) (Ge Gb G G G) G (JLh (.agg (Es c)) (Jq (cs:=(Es c)) [(0,1),(1,1),(2,1)] [I64 0,I64 0,I64 0] [E0,E0,E0] Zf cC (zzQ G) G G) G (JLh (.dptr [I64 c.Y,I64 c.Z]) (Ga kN G G G) G (JLh (I64 c.Y) (Ge Gb G G G) G ?_)))))))))))))
  refine JLh (.agg (Eu c)) (Jq (cs:=(Eu c)) [(0,1),(1,1),(2,1)] [I64 0,I64 0,I64 0] [E0,E0,E0] Zf cC (zzQ G) G G) G (JLh (.dptr [I64 c.Z]) (Ga kM G G G) G (JLh (I64 c.Z) (Ge Gb G G G) G (JLh (.agg (Ev c)) (Jq (cs:=(Ev c)) [(0,1),(1,1),(2,1)] [I64 0,I64 0,I64 0] [E0,E0,E0] Zf cC (zzQ G) G G) G (JLh (LS 3 Hw.av (Em c)) (Hf (xs:=[.agg [I64 c.Bay,I64 0,I64 39],.agg [I64 c.Row,I64 0,I64 30],.agg [I64 c.Tiers,I64 1,I64 10],.agg (Ew c),.agg (Ep c),.agg (Er c),.agg (Eo c),.agg (Es c),.agg (Eu c),.agg (Ev c)]) G ⟨G,G,G,G,G,G,G,G,G,G,G,G,G,G,G,G,G,G,G,G,U⟩ nM tM G G G G) G ?_))))
  obtain⟨m,a6,h⟩:=Gd h
  refine JLh (BL m) (fR (args:=[LS 3 Hw.av (Em c)]) (caps:=[]) G G (tD (Em c) m a6) QP ⟨G,G,U⟩ G) G (JLm (BL m) G (G5 (a5 (Gs (fin1 BL h)))))

def kU (s:Gq) (Rp:Bool→Prop):Option Prop:=
 bif (((decide ((s.Columns.length:Int) < 1))||(decide (200 < (s.Columns.length:Int))))||(decide (40 < (s.Covers.length:Int)))) then
 (some (Rp false))
 else
 (each (fun c y (f:(J8 Hk Int)) m=>
   jp (fun g=>
    bif c.Deck then
    (g 1)
    else
    (g 0)) fun(k:Int)=>
   bnd (some (J8.get f (Hk.mk c.Bay c.Row k) 0)) fun v=>
   chk (v+1) fun w=>
   bnd (iD c) fun x=>
   bif (!x) then
   (some (Rp false))
   else
   (m (J8.put f (Hk.mk c.Bay c.Row k) w)))
  (fun(f:(J8 Hk Int))=>
   each (fun b z (h:(J8 Hk Int)) n=>
    bif (((decide (b.Bay < 0))||(decide (40≤b.Bay)))||(decide ((b.Rows.length:Int)=0))) then
    (some (Rp false))
    else
    (each (fun a d (e:(J8 Hk Int)) i=>
      bnd (bif ((!((decide (a < 0))||(decide (30 < a))))&&(decide (0 < (d:Int)))) then chk ((d:Int) - 1) some else some 0) fun o=>
      bnd (bif ((!((decide (a < 0))||(decide (30 < a))))&&(decide (0 < (d:Int)))) then Jo b.Rows o some else some default) fun p=>
      bif (((decide (a < 0))||(decide (30 < a)))||((decide (0 < (d:Int)))&&(decide (a≤p)))) then
      (some (Rp false))
      else
      (bnd (some (J8.get e (Hk.mk b.Bay a 2) 0)) fun q=>
       chk (q+1) fun r=>
       i (J8.put e (Hk.mk b.Bay a 2) r)))
     (fun(e:(J8 Hk Int))=>
      n e) b.Rows 0 h))
   (fun(h:(J8 Hk Int))=>
    H2d (fun(t:Hk×Int) (u:Unit) j=>
     bif decide (1 < t.2) then
     (lft (some (Rp false)))
     else
     (j ()))
    (fun(u:Unit)=>
     some (Rp true)) (J8.l h) ()) s.Covers 0 f) s.Columns 0 (J8.empty:J8 Hk Int))
def oJ (s:Gq):Option Bool:=
 bif (((decide ((s.Columns.length:Int) < 1))||(decide (200 < (s.Columns.length:Int))))||(decide (40 < (s.Covers.length:Int)))) then
 (some (id false))
 else
 (each (fun c y (f:(J8 Hk Int)) m=>
   jp (fun g=>
    bif c.Deck then
    (g 1)
    else
    (g 0)) fun(k:Int)=>
   bnd (some (J8.get f (Hk.mk c.Bay c.Row k) 0)) fun v=>
   chk (v+1) fun w=>
   bnd (iD c) fun x=>
   bif (!x) then
   (some (id false))
   else
   (m (J8.put f (Hk.mk c.Bay c.Row k) w)))
  (fun(f:(J8 Hk Int))=>
   each (fun b z (h:(J8 Hk Int)) n=>
    bif (((decide (b.Bay < 0))||(decide (40≤b.Bay)))||(decide ((b.Rows.length:Int)=0))) then
    (some (id false))
    else
    (each (fun a d (e:(J8 Hk Int)) i=>
      bnd (bif ((!((decide (a < 0))||(decide (30 < a))))&&(decide (0 < (d:Int)))) then chk ((d:Int) - 1) some else some 0) fun o=>
      bnd (bif ((!((decide (a < 0))||(decide (30 < a))))&&(decide (0 < (d:Int)))) then Jo b.Rows o some else some default) fun p=>
      bif (((decide (a < 0))||(decide (30 < a)))||((decide (0 < (d:Int)))&&(decide (a≤p)))) then
      (some (id false))
      else
      (bnd (some (J8.get e (Hk.mk b.Bay a 2) 0)) fun q=>
       chk (q+1) fun r=>
       i (J8.put e (Hk.mk b.Bay a 2) r)))
     (fun(e:(J8 Hk Int))=>
      n e) b.Rows 0 h))
   (fun(h:(J8 Hk Int))=>
    G59 (fun(t:Hk×Int) (u:Unit) j=>
     bif decide (1 < t.2) then
     (lft (some (id false)))
     else
     (j ()))
    (fun(u:Unit)=>
     some (id true)) (J8.l h) ()) s.Covers 0 f) s.Columns 0 (J8.empty:J8 Hk Int))
abbrev Ex (s:Gq):List AV:=[E5 s.Covers,I64 s.Light.Kilos,I64 s.Light.X,I64 s.Light.Y,I64 s.Light.Z,E8 s.Rows,E7 s.Frames,E9 s.Tanks,I64 s.Gk.Tolerance,I64 s.Gk.Trim,I64 s.Gk.List_,I64 s.Gk.Stability]
abbrev Ey (s:Gq):Bool:=((decide ((s.Columns.length:Int) < 1))||(decide (200 < (s.Columns.length:Int))))
abbrev Ez (a:(J8 Hk Int)):Loc:=[(1062,MP 185 Hk.kv I64 a)]
theorem G32 (s:Gq) (Rp:Bool→Prop) (p:Prop) (h:kU s Rp=some p) (hp:p):Pure Ek 43 [.agg (Gq.cs s)] (fun av=>∃ r,Rp r/\av=BL r):=by
 unfold kU at h
 refine Gy [.tmp 2] Tryz.func43 G G (Jr fun i8=>(JLh (.ptr 1059 0) (Jy (cs:=(Gq.cs s)) 1059 G G G G G) G (JLm (BL false) G (G5 (i8 (Gw [(1,Ed s)] [] 1059 rfl rfl rfl U rfl (by exact⟨.ptr,U⟩) (Js fun i9=>?_)))))))
 refine Jr fun j0=>(JLh (Ed s) (Ga Hu G G G) G (JLh (E4 s.Columns) (Ge J2 G G G) G (JLl Hd G G G fun k2=>(JLh (BL (decide ((s.Columns.length:Int) < 1))) (Hr G G G) G (JLm (BL (decide ((s.Columns.length:Int) < 1))) G (JLo (Ed s) [] G .scf U (fun hc=>Ga Hu G G G) G (JLo (E4 s.Columns) [18] G .scf ⟨Ua,U⟩ (fun hc=>Ge J2 G G G) G (JLo (Ej s.Columns.length) [19] G .scf ⟨Ua,U⟩ (fun hc=>Q8 (f:=G6.av) (xs:=s.Columns) Hd G G) G (JLo (BL (decide (200 < (s.Columns.length:Int)))) [20] G .scf ⟨Ua,U⟩ (fun hc=>dE G G G) G (JLh (BL (Ey s)) (Rm G G G G) G (JLm (BL (Ey s)) G (JLo (.dptr (Ex s)) [] G .scf U (fun hc=>Ga Qh G G G) G (JLo (E5 s.Covers) [24] G .scf ⟨Ua,U⟩ (fun hc=>Ge R4 G G G) G ?_)))))))))))))
 refine JLo (Ej s.Covers.length) [25] G .scf ⟨Ua,U⟩ (fun hc=>Q8 (f:=H3.av) (xs:=s.Covers) J1 G G) G (JLo (BL (decide (40 < (s.Covers.length:Int)))) [26] G .scf ⟨Ua,U⟩ (fun hc=>dE G G G) G (JLh (BL ((Ey s)||(decide (40 < (s.Covers.length:Int))))) (Rm G G G G) G (G5 (j0 (JCc G h (fun h hb=>?_) (fun h hb=>?_))))))
 ·
  refine Jr fun j1=>(JLm (BL false) G (G5 (j1 (Gs (⟨[BL false],[],U,G,⟨⟨_,G,.conv (.same G)⟩,U⟩,G,false,Eq.mpr (Pc h) hp,G⟩)))))
 ·
  refine Gn (i9 (Jr fun j2=>(JLh (.mp 1062) (zS 1062 Hk.kv I64 G G) G (JLm (.mp 1062) G (G5 (j2 (Js fun j3=>Jr fun j4=>(JLh (Ed s) (Ga Hu G G G) G (JLh (E4 s.Columns) (Ge J2 G G G) G (JLl Hd G G G fun f0=>(JLm (I64 0) G (G5 (j4 (Gf ?_))))))))))))))
  obtain⟨j5,f1,f2,c4,h⟩:=Hy h
  refine H8 (fun o (k:(J8 Hk Int))=>each j5 f1 (List.drop o s.Columns) o k=some p) (fun o k=>[(1,Ed s),(3,.mp 1062),(31,E4 s.Columns),(32,Ej s.Columns.length),(33,Ej o)]) (fun o k=>(Ez k)) (fun o=>s.Columns.length - o) 0 (J8.empty:J8 Hk Int) h ⟨(.sm G G),⟨fmQ G,U⟩,rfl⟩ ?_
  clear h
  intro o k b5 k8 j6
  refine Jr fun f3=>(JLh (BL (decide ((o:Int) < (s.Columns.length:Int)))) (Hr G G G) G (G5 (f3 (Js fun f4=>Gg G (fun hb=>?_) (fun hb=>?_)))))
  ·
   have b6:=Je hb
   obtain⟨g,k3,f5,f6,h⟩:=Hh b5 b6
   replace h:=Rx f2 h
   refine Gn (f4 (Js fun f7=>Gf (Jr fun f8=>(JLh (Ef g) (Gr (f:=G6.av) (xs:=s.Columns) (y:=g) G G G Hd f5 G) G (JLh (.agg (G6.cs g)) (Gj Zu G G G) G (JLh (.ptr 1060 0) (Jp 1060 12 jS G G) G (J7 (u:=.junk) (Hv (u:=.agg (G6.cs g)) (ds:=(G6.cs g)) oR G G G G G G G G) (G5 (f8 ?_)))))))))
   refine fzQ [(1,Ed s),(3,.mp 1062),(5,Ef g),(31,E4 s.Columns),(32,Ej s.Columns.length),(33,Ej o)] (Ez k) 1060 rfl rfl rfl ⟨fmQ G,U⟩ rfl (Jr fun f9=>(JLm (I64 0) G (G5 (f9 ?_))))
   obtain⟨g0,c5,h⟩:=gF h
   refine Zc (fun n:Int=>g0 n=some p) (fun n=>[(1,Ed s),(3,.mp 1062),(5,Ef g),(6,I64 n),(31,E4 s.Columns),(32,Ej s.Columns.length),(33,Ej o)]) (fun n=>(Ez k)) (fun Kj74 ej74=>?_) ?_
   ·
    refine Jr fun g1=>(JLh (.dptr ((G6.cs g).drop 2)) (Ga bS G G G) G (JLh (BL g.Deck) (Ge Ye G G G) G (G5 (g1 (JCc G h (fun h hb=>?_) (fun h hb=>?_))))))
    ·
     refine G1 (JLm (I64 1) G (G5 (ej74 _ _ 1 h ⟨(.sm G G),⟨fmQ G,U⟩,rfl⟩)))
    ·
     refine Gn (ej74 _ _ 0 h ⟨(.sm G G),⟨fmQ G,U⟩,rfl⟩)
   .intro n h
    replace h:=app1 c5 h
    refine Js fun g2=>rM (l':=[(1,Ed s),(3,.mp 1062),(5,Ef g),(6,I64 n),(31,E4 s.Columns),(32,Ej s.Columns.length),(33,Ej o)]) (L':=(Ez k)) ⟨(.sm G G),⟨fmQ G,U⟩,rfl⟩ ?_
    obtain⟨j7,b7,h⟩:=Gd h
    obtain⟨a4,b8,h⟩:=R2 h
    refine Ju [9,11] [0,0,0,0,0,0,0,0,0,0,1,0] [0,0,0,0,0,0,0,1,1,0,1,0] [(Ez k),((1062,MI 185 Hk.kv I64 k (Hk.mk g.Bay g.Row n) 0)::(Ez k)),((1062,MP 185 Hk.kv I64 (J8.put k (Hk.mk g.Bay g.Row n) a4))::((1062,MI 185 Hk.kv I64 k (Hk.mk g.Bay g.Row n) 0)::(Ez k)))] Jd (by kernel_rfl) rfl rfl ?_
    refine G8 (u:=.mp 1062) G G ⟨Gp (G3 G G) G,U⟩ (G8 (u:=Ef g) G G ⟨Gp (Ga bU G G G) G,U⟩ (G8 (u:=I64 g.Bay) G G ⟨Gp (Ge Gb G G G) G,U⟩ (G8 (u:=.dptr ((G6.cs g).drop 1)) G G ⟨Gp (Ga bT G G G) G,U⟩ (G8 (u:=I64 g.Row) G G ⟨Gp (Ge Gb G G G) G,U⟩ (G8 (u:=I64 n) G G ⟨Gp (G3 G G) G,U⟩ (G8 (u:=.agg [I64 g.Bay,I64 g.Row,I64 n]) G G ⟨Gp (G44 (cs:=[I64 g.Bay,I64 g.Row,I64 n]) [E0,E0,E0] G00 QC G G) G,U⟩ (G8 (u:=I64 j7) G G ⟨Gp (((Pc b7) ▸ G42 (av:=I64) (m:=k) (a:=(Hk.mk g.Bay g.Row n)) 0 E0 G G G G HM jM xC G)) G,Gp (((Pc b7) ▸ G41 (av:=I64) (m:=k) (a:=(Hk.mk g.Bay g.Row n)) 0 E0 G G G G HM jM xC G)) G,U⟩ (G8 (u:=I64 a4) G G ⟨Gp (Hs b8 G G G) G,Gp (Hs b8 G G G) G,U⟩ (D_w (u:=.tup [.junk,I64 (dY (J8.l k) (Hk.mk g.Bay g.Row n):Int)]) G G G G (Gp (RZ (m:=k) (a:=(Hk.mk g.Bay g.Row n)) 0 E0 G G G G HM jM xC G) G) (G8 (u:=I64 (dY (J8.l k) (Hk.mk g.Bay g.Row n):Int)) G G ⟨Gp (Hx G G G) G,U⟩ (Jf9 (u:=.junk) G G G G (Gp (yJ (m:=k) (a:=(Hk.mk g.Bay g.Row n)) (v:=a4) 0 G G G G G G) G) (Rk ?_))))))))))))
    refine g2 (Jr fun g3=>(JLh (.agg (G6.cs g)) (Gj Zu G G G) G ?_))
    obtain⟨a5,g4,h⟩:=Gd h
    refine JLh (BL a5) (Gi G (G31 g a5 g4) H03 ⟨G,G,U⟩) G (JLh (BL (!a5)) (Qj (b:=a5) G G) G (G5 (g3 (JCc G h (fun h hb=>?_) (fun h hb=>?_)))))
    ·
     refine Jr fun g5=>(JLm (BL false) G (G5 (g5 (Gs (⟨[BL false],[],U,G,⟨⟨_,G,.conv (.same G)⟩,U⟩,G,false,Eq.mpr (Pc h) hp,G⟩)))))
    ·
     refine Gn (f7 (G1 (JLh (I64 ((o+1:Nat):Int)) (Hs (Hb b6 f0) G G G) G (JLm (I64 ((o+1:Nat):Int)) G (G5 (j6 _ _ (o+1) (J8.put k (Hk.mk g.Bay g.Row n) a4) (app1 f6 h) (by omega) ⟨(.sm G G),⟨fmQ G,U⟩,rfl⟩))))))
  ·
   have h:=app1 c4 (Hi b5 (H6 hb))
   refine H9 (j3 (Js fun g6=>Jr fun g7=>(JLh (.dptr (Ex s)) (Ga Qh G G G) G (JLh (E5 s.Covers) (Ge R4 G G G) G (JLl J1 G G G fun g8=>(JLm (I64 0) G (G5 (g7 (Gf ?_)))))))))
   obtain⟨j8,g9,h0,c6,h⟩:=Hy h
   refine H8 (fun t (w:(J8 Hk Int))=>each j8 g9 (List.drop t s.Covers) t w=some p) (fun t w=>[(3,.mp 1062),(55,E5 s.Covers),(56,Ej s.Covers.length),(57,Ej t)]) (fun t w=>(Ez w)) (fun t=>s.Covers.length - t) 0 k h ⟨(.sm G G),⟨fmQ G,U⟩,rfl⟩ ?_
   clear h
   intro t w b9 k9 j9
   refine Jr fun h1=>(JLh (BL (decide ((t:Int) < (s.Covers.length:Int)))) (Hr G G G) G (G5 (h1 (Js fun h2=>Gg G (fun hb=>?_) (fun hb=>?_)))))
   ·
    have c0:=Je hb
    obtain⟨c,k4,h3,h4,h⟩:=Hh b9 c0
    replace h:=Rx h0 h
    refine Gn (h2 (Js fun h5=>Gf (Jr fun h6=>(JLh (.dptr [I64 c.Bay,E2 c.Rows]) (Gr (f:=H3.av) (xs:=s.Covers) (y:=c) G G G J1 h3 G) G (JLh (.agg [I64 c.Bay,E2 c.Rows]) (Gj Zd G G G) G (JLh (.ptr 1061 0) (Jp 1061 2 fF G G) G (J7 (u:=.junk) (Hv (u:=.agg [I64 c.Bay,E2 c.Rows]) (ds:=[I64 c.Bay,E2 c.Rows]) jL G G G G G G G G) (G5 (h6 (fzQ [(3,.mp 1062),(8,.dptr [I64 c.Bay,E2 c.Rows]),(55,E5 s.Covers),(56,Ej s.Covers.length),(57,Ej t)] (Ez w) 1061 rfl rfl rfl ⟨fmQ G,U⟩ rfl (Js fun h7=>?_)))))))))))
    refine Jr fun h8=>(JLh (.dptr [I64 c.Bay,E2 c.Rows]) (Ga aI G G G) G (JLh (I64 c.Bay) (Ge Gb G G G) G (JLh (BL (decide (c.Bay < 0))) (Hr G G G) G (JLm (BL (decide (c.Bay < 0))) G (JLo (.dptr [I64 c.Bay,E2 c.Rows]) [] G .scf U (fun hc=>Ga aI G G G) G (JLo (I64 c.Bay) [65] G .scf ⟨Ua,U⟩ (fun hc=>Ge Gb G G G) G (JLo (BL (decide (40≤c.Bay))) [66] G .scf ⟨Ua,U⟩ (fun hc=>cH G G G) G (JLh (BL ((decide (c.Bay < 0))||(decide (40≤c.Bay)))) (Rm G G G G) G (JLm (BL ((decide (c.Bay < 0))||(decide (40≤c.Bay)))) G (JLo (.dptr [E2 c.Rows]) [] G .scf U (fun hc=>Ga Qg G G G) G (JLo (E2 c.Rows) [70] G .scf ⟨Ua,U⟩ (fun hc=>Ge He G G G) G (JLo (Ej c.Rows.length) [71] G .scf ⟨Ua,U⟩ (fun hc=>Q8 (f:=I64) (xs:=c.Rows) Gz G G) G (JLo (BL (decide ((c.Rows.length:Int)=0))) [72] G .scf ⟨Ua,U⟩ (fun hc=>Qc G G G) G ?_)))))))))))))
    refine JLh (BL (((decide (c.Bay < 0))||(decide (40≤c.Bay)))||(decide ((c.Rows.length:Int)=0)))) (Rm G G G G) G (G5 (h8 (JCc G h (fun h hb=>?_) (fun h hb=>?_))))
    ·
     refine Jr fun h9=>(JLm (BL false) G (G5 (h9 (Gs (⟨[BL false],[],U,G,⟨⟨_,G,.conv (.same G)⟩,U⟩,G,false,Eq.mpr (Pc h) hp,G⟩)))))
    ·
     refine Gn (h7 (Jr fun i0=>(JLh (.dptr [E2 c.Rows]) (Ga Qg G G G) G (JLh (E2 c.Rows) (Ge He G G G) G (JLl Gz G G G fun i1=>(JLm (I64 0) G (G5 (i0 (Gf ?_)))))))))
     obtain⟨i2,c7,c8,c1,h⟩:=Hy h
     refine H8 (fun i (j:(J8 Hk Int))=>each i2 c7 (List.drop i c.Rows) i j=some p) (fun i j=>[(3,.mp 1062),(8,.dptr [I64 c.Bay,E2 c.Rows]),(55,E5 s.Covers),(56,Ej s.Covers.length),(57,Ej t),(76,E2 c.Rows),(77,Ej c.Rows.length),(78,Ej i)]) (fun i j=>(Ez j)) (fun i=>c.Rows.length - i) 0 w h ⟨(.sm G G),⟨fmQ G,U⟩,rfl⟩ ?_
     clear h
     intro i j a6 k5 i3
     refine Jr fun c9=>(JLh (BL (decide ((i:Int) < (c.Rows.length:Int)))) (Hr G G G) G (G5 (c9 (Js fun d0=>Gg G (fun hb=>?_) (fun hb=>?_)))))
     ·
      have a7:=Je hb
      obtain⟨d,k0,d1,d2,h⟩:=Hh a6 a7
      replace h:=Rx c8 h
      refine Gn (d0 (Js fun d3=>Gf (Jr fun d4=>(JLm (Ej i) G (JLh (.dptr [I64 d]) (Gr (f:=I64) (xs:=c.Rows) (y:=d) G G G Gz d1 G) G (JLh (I64 d) (Ge Gb G G G) G (JLm (Ej i) G (JLm (I64 d) G (G5 (d4 (Js fun d5=>?_)))))))))))
      refine Jr fun d6=>(JLm (I64 d) G (JLh (BL (decide (d < 0))) (Hr G G G) G (JLm (BL (decide (d < 0))) G (JLo (I64 d) [] G .scf U (fun hc=>G3 G G) G (JLo (BL (decide (30 < d))) [86] G .scf ⟨Ua,U⟩ (fun hc=>dE G G G) G (JLh (BL ((decide (d < 0))||(decide (30 < d)))) (Rm G G G G) G (JLm (BL ((decide (d < 0))||(decide (30 < d)))) G (JLo (Ej i) [] G .scf U (fun hc=>G3 G G) G (JLo (BL (decide (0 < (i:Int)))) [90] G .scf ⟨Ua,U⟩ (fun hc=>dE G G G) G (JLo (BL (decide (0 < (i:Int)))) [91] G .scf ⟨Ua,U⟩ (fun hc=>G3 G G) G (JLo (I64 d) [] G .optt U (fun hc=>G3 G G) G (JLo (.dptr [E2 c.Rows]) [] G .optt U (fun hc=>Ga Qg G G G) G (JLo (E2 c.Rows) [94] G .optt ⟨Ua,U⟩ (fun hc=>Ge He G G G) G ?_)))))))))))))
      refine JLo (Ej i) [] G .optt U (fun hc=>G3 G G) G ?_
      obtain⟨i4,d7,h⟩:=Gd h
      refine JLo (I64 i4) [96] G .optt ⟨Ua,U⟩ (fun hc=>kX (aM (Gv hc d7)) G G G) G ?_
      obtain⟨a0,d8,h⟩:=Gd h
      refine JLo (.dptr [I64 a0]) [95,97] G .optt ⟨Ua,Ua,U⟩ (fun hc=>(match Jt (Gv hc d8) with | ⟨_,hm_,hy_⟩=>Gr (f:=I64) (xs:=c.Rows) (y:=a0) G G G Gz hy_ hm_)) G (JLo (I64 a0) [98] G .optt ⟨Ua,U⟩ (fun hc=>Ge Gb G G G) G (JLo (BL (decide (d≤a0))) [93,99] G .optt ⟨Ua,Ua,U⟩ (fun hc=>rQ G G G) G (G9 (u:=BL ((decide (0 < (i:Int)))&&(decide (d≤a0)))) [(92,BL (decide (0 < (i:Int)))),(100,_)] G G G .scf ⟨.all id,.part,U⟩ (fun hc=>J9 G G G G) ?_)))
      refine JLh (BL (((decide (d < 0))||(decide (30 < d)))||((decide (0 < (i:Int)))&&(decide (d≤a0))))) (Rm G G G G) G (G5 (d6 (JCc G h (fun h hb=>?_) (fun h hb=>?_))))
      ·
       refine Jr fun d9=>(JLm (BL false) G (G5 (d9 (Gs (⟨[BL false],[],U,G,⟨⟨_,G,.conv (.same G)⟩,U⟩,G,false,Eq.mpr (Pc h) hp,G⟩)))))
      ·
       refine Gn (d5 (rM (l':=[(3,.mp 1062),(8,.dptr [I64 c.Bay,E2 c.Rows]),(10,I64 d),(55,E5 s.Covers),(56,Ej s.Covers.length),(57,Ej t),(76,E2 c.Rows),(77,Ej c.Rows.length),(78,Ej i)]) (L':=(Ez j)) ⟨(.sm G G),⟨fmQ G,U⟩,rfl⟩ ?_))
       obtain⟨i5,a8,h⟩:=Gd h
       obtain⟨a1,a9,h⟩:=R2 h
       refine Ju [7,9] [0,0,0,0,0,0,0,0,1,0] [0,0,0,0,0,1,1,0,1,0] [(Ez j),((1062,MI 185 Hk.kv I64 j (Hk.mk c.Bay d 2) 0)::(Ez j)),((1062,MP 185 Hk.kv I64 (J8.put j (Hk.mk c.Bay d 2) a1))::((1062,MI 185 Hk.kv I64 j (Hk.mk c.Bay d 2) 0)::(Ez j)))] Jd (by kernel_rfl) rfl rfl ?_
       refine G8 (u:=.mp 1062) G G ⟨Gp (G3 G G) G,U⟩ (G8 (u:=.dptr [I64 c.Bay,E2 c.Rows]) G G ⟨Gp (Ga aI G G G) G,U⟩ (G8 (u:=I64 c.Bay) G G ⟨Gp (Ge Gb G G G) G,U⟩ (G8 (u:=I64 d) G G ⟨Gp (G3 G G) G,U⟩ (G8 (u:=.agg [I64 c.Bay,I64 d,I64 2]) G G ⟨Gp (G44 (cs:=[I64 c.Bay,I64 d,I64 2]) [E0,E0,E0] G00 QC G G) G,U⟩ (G8 (u:=I64 i5) G G ⟨Gp (((Pc a8) ▸ G42 (av:=I64) (m:=j) (a:=(Hk.mk c.Bay d 2)) 0 E0 G G G G HM jM xC G)) G,Gp (((Pc a8) ▸ G41 (av:=I64) (m:=j) (a:=(Hk.mk c.Bay d 2)) 0 E0 G G G G HM jM xC G)) G,U⟩ (G8 (u:=I64 a1) G G ⟨Gp (Hs a9 G G G) G,Gp (Hs a9 G G G) G,U⟩ (D_w (u:=.tup [.junk,I64 (dY (J8.l j) (Hk.mk c.Bay d 2):Int)]) G G G G (Gp (RZ (m:=j) (a:=(Hk.mk c.Bay d 2)) 0 E0 G G G G HM jM xC G) G) (G8 (u:=I64 (dY (J8.l j) (Hk.mk c.Bay d 2):Int)) G G ⟨Gp (Hx G G G) G,U⟩ (Jf9 (u:=.junk) G G G G (Gp (yJ (m:=j) (a:=(Hk.mk c.Bay d 2)) (v:=a1) 0 G G G G G G) G) (Rk ?_))))))))))
       refine d3 (G1 (JLh (I64 ((i+1:Nat):Int)) (Hs (Hb a7 i1) G G G) G (JLm (I64 ((i+1:Nat):Int)) G (G5 (i3 _ _ (i+1) (J8.put j (Hk.mk c.Bay d 2) a1) (app1 d2 h) (by omega) ⟨(.sm G G),⟨fmQ G,U⟩,rfl⟩)))))
     ·
      have h:=app1 c1 (Hi a6 (H6 hb))
      refine H9 (h5 (G1 (JLh (I64 ((t+1:Nat):Int)) (Hs (Hb c0 g8) G G G) G (JLm (I64 ((t+1:Nat):Int)) G (G5 (j9 _ _ (t+1) j (app1 h4 h) (by omega) ⟨(.sm G G),⟨fmQ G,U⟩,rfl⟩))))))
   ·
    have h:=app1 c6 (Hi b9 (H6 hb))
    refine H9 (g6 (Js fun e0=>Jr fun e1=>(JLm (.mp 1062) G (JLh (.it 1063) (J56 1063 (m:=w) G G G G jM) G (G5 (e1 (Gf ?_)))))))
    obtain⟨i6,e2,e3,c2,h⟩:=J3c h
    refine J4a (J8.size w) (fun x (a2:Unit)=>MInv i6 e2 (J8.l w) x a2) (fun x a2=>[(115,.it 1063)]) (fun x a2=>[(1062,MP 185 Hk.kv I64 w),(1063,.iter (.mp 1062) (J8.size w) x)]) () (MInv.start h hp) ⟨⟨.same G,U⟩,⟨⟨_,G,.map⟩,⟨_,G,.iter G⟩,U⟩,G⟩ ?_
    clear h hp
    intro x a2 b0 k6 i7
    refine Jr fun b1=>uV G G G (Jb6 (m:=w) G G G G) ?_
    intro u_ L_ hn_
    rcases hn_ with ⟨c3,z,a3,b2,rfl,rfl⟩ | ⟨e4,rfl,rfl⟩
    ·
     obtain⟨k7,h,b3,b4⟩:=b0.step a3 b2
     replace h:=vG e3 h
     refine JLh (BL true) (Hx G G G) G (G5 (b1 (Js fun e5=>J4f G (Gn (e5 (Gf (Jr fun e6=>(JLh (.tup [.agg (Hk.cs z.1),I64 z.2]) (J60 (kv:=Hk.kv) (av:=I64) (m:=w) (q:=c3) (seen:=x) (e:=z) G G G G a3) G (JLh (I64 z.2) (Hx G G G) G (JLm (I64 z.2) G (G5 (e6 (Jr fun e7=>(JLm (I64 z.2) G (JLh (BL (decide (1 < z.2))) (dE G G G) G (G5 (e7 (JCc G h (fun h hb=>?_) (fun h hb=>?_)))))))))))))))))))
     ·
      refine Jr fun e8=>(JLm (BL false) G (G5 (e8 (Gs ?_))))
      obtain⟨y_,hy_,hl_⟩:=J99 h
      exact⟨[BL false],[],U,G,⟨⟨_,G,.conv (.same G)⟩,U⟩,G,false,Eq.mpr (Pc hl_) (b3 y_ hy_),G⟩
     ·
      refine Gn (i7 _ _ (x++[c3]) () (b4 _ (Pc h).symm) (Hd7 (Pa a3).1 b2) ⟨⟨.same G,U⟩,⟨⟨_,G,.map⟩,⟨_,G,.iter G⟩,U⟩,G⟩)
    ·
     obtain⟨p_,h,hp⟩:=b0.done e4
     replace h:=app1 c2 h
     refine JLh (BL false) (Hx G G G) G (G5 (b1 (Js fun k1=>J50 G (H9 (e0 (Jr fun e9=>(JLm (BL true) G (G5 (e9 (Gs (⟨[BL true],[],U,G,⟨⟨_,G,.conv (.same G)⟩,U⟩,G,true,Eq.mpr (Pc h) hp,G⟩)))))))))))
theorem G33 (S_:(Gq)→Option Bool) (hS_:∀ s r,S_ s=some r→∃ p:Prop,kU s (fun r_=>r_=r)=some p/\p) (s:Gq) (r:Bool) (h:S_ s=some r):Pure Ek 43 [.agg (Gq.cs s)] (·=BL r):=by
 obtain⟨p,a,b⟩:=hS_ s r h
 exact(G32 s _ p a b).monoP (fun av hh=>by obtain⟨r_,rfl,ha⟩:=hh; exact ha)

def jA (size:Int):Option (List Int):=
 bif decide (size=40) then
 (some [0])
 else
 (bif decide (size=20) then
  (some [1,2])
  else
  (some []))
theorem YI (size:Int) (r:(List Int)) (h:jA size=some r):Pure Ek 188 [U8 size] (·=Eb r):=by
 unfold jA at h
 refine Gy [.tmp 2] Tryz.func188 G G (Jr fun a=>(JLh (Eb ([]:List Int)) (Qd 1 G G) G (G5 (a (Js fun b=>Jr fun c=>(JLm (U8 size) G (G5 (c (Gf (Jr fun d=>(JLh (BL (decide (size=40))) (Qc G G G) G (JLm (BL (decide (size=40))) G (G5 (d (JCc G h (fun h hb=>?_) (fun h hb=>?_))))))))))))))))
 ·
  refine Jr fun e=>(JLh (Eb [0]) (Hf (xs:=[U8 0]) G ⟨G,G,U⟩ nL YY G G G G) G (JLm (Eb [0]) G (G5 (e (Gs (fin1 (fun r:(List Int)=>(Eb r:AV)) h))))))
 ·
  refine Jr fun f=>(JLh (BL (decide (size=20))) (Qc G G G) G (JLm (BL (decide (size=20))) G (G5 (f (JCc G h (fun h hb=>?_) (fun h hb=>?_))))))
  ·
   refine Jr fun g=>(JLh (Eb [1,2]) (Hf (xs:=[U8 1,U8 2]) G ⟨G,G,G,G,U⟩ nL YY G G G G) G (JLm (Eb [1,2]) G (G5 (g (Gs (fin1 (fun r:(List Int)=>(Eb r:AV)) h))))))
  ·
   refine Gn (b (Jr fun i=>(JLh (Eb ([]:List Int)) (Qd 1 G G) G (G5 (i (Gs (fin1 (fun r:(List Int)=>(Eb r:AV)) h)))))))

def kV (d:Ya) (ys_:List ((List G2)×(List G2))):Option Unit:=
 each (fun b e (a:(List G2)×Nat) c=>
  need (decide (ys_[a.2]? = some (a.1,b))) <|
  c (b,(a.2+1)))
 (fun(a:(List G2)×Nat)=>
  need (decide (a.2=ys_.length)) (some ())) d.States 0 ([],0)
theorem JR (e:Ya) (ys_:List ((List G2)×(List G2))) (q_:Unit) (h:kV e ys_=some q_):Iter Ek 116 [.dptr [LS 1 (E1) e.States,LS 1 (E2) e.Water]] (ys_.map (fun y:(List G2)×(List G2)=>[E1 y.1,E1 y.2])):=by
 unfold kV at h
 refine Jac Tryz.func116 G G ?_
 intro E hE hys
 refine xB (fun K1 w=>lQ (hN (u:=E1 ([]:List G2)) hE (Qd 4 G G) ?_ G G G G))
 refine uW ?_
 refine w _ _ _ (xB (fun K2 z=>lQ (hN (u:=.dptr [LS 1 (E1) e.States,LS 1 (E2) e.Water]) hE (Ga Qr G G G) ?_ G G G G)))
 refine hN (u:=LS 1 (E1) e.States) hE (Ge Qe G G G) ?_ G G G G
 refine J48 hE (f:=(E1)) (xs:=e.States) Hn G G (fun a0=>?_) G G G
 refine hN (u:=I64 0) hE (G3 G G) ?_ G G G G
 refine uW ?_
 refine z _ _ _ (H3c ?_)
 obtain⟨a1,k,l,j,h⟩:=Hy h
 refine J46 (fun a (c:(List G2)×Nat)=>each a1 k (List.drop a e.States) a c=some q_) (fun a c=>[(0,.sc (.func (.yield E.lp) #[] #[])),(3,E1 c.1),(7,LS 1 (E1) e.States),(8,Ej e.States.length),(9,Ej a)]) (fun a c=>[]) (fun a c=>c.2) (fun a=>e.States.length - a) 0 ([],0) h ⟨(.sm G G),U,rfl⟩ rfl ?_
 clear h
 intro a c g a4 a2
 refine xB (fun a5 m=>lQ (hN (u:=BL (decide ((a:Int) < (e.States.length:Int)))) hE (Hr G G G) ?_ G G G G))
 refine uW ?_
 refine m _ _ _ (xB (fun a6 n=>Gbf G (fun hb=>?_) (fun hb=>?_)))
 ·
  have i:=Je hb
  obtain⟨d,a3,o,p,h⟩:=Hh g i
  replace h:=Rx l h
  refine Hcb (n _ _ _ (xB (fun a7 q=>H3c (xB (fun a8 r=>lQ (hN (u:=.dptr [E1 d]) hE (Gr (f:=(E1)) (xs:=e.States) (y:=d) G G G Hn o G) ?_ G G G G))))))
  refine hN (u:=E1 d) hE (Ge Q6 G G G) ?_ G G G G
  refine hN (u:=E1 d) hE (G7 G G) ?_ G G G G
  refine uW ?_
  refine r _ _ _ (xB (fun a9 s=>xB (fun b0 t=>lQ (hN (u:=.sc (.func (.yield E.lp) #[] #[])) hE (G3 G G) ?_ G G G G))))
  refine hN (u:=E1 c.1) hE (G3 G G) ?_ G G G G
  refine hN (u:=E1 d) hE (G3 G G) ?_ G G G G
  obtain⟨v,h⟩:=J5 h
  refine J0c (us:=[E1 c.1,E1 d]) hE G G ⟨.inl G,G,.inl G,G,U⟩ (Jdb (f:=(fun y:(List G2)×(List G2)=>[E1 y.1,E1 y.2])) (x:=(c.1,d)) hys v) ?_ G G G
  refine hN (u:=BL false) hE (Qj (b:=true) G G) ?_ G G G G
  refine uW ?_
  refine t _ _ _ (J47 G (Hcb (s _ _ _ (lQ (hN (u:=E1 d) hE (G3 G G) ?_ G G G G)))))
  refine hN (u:=E1 d) hE (G7 G G) ?_ G G G G
  refine uW ?_
  refine q _ _ _ (lQ (hN (u:=I64 ((a+1:Nat):Int)) hE (Hs (Hb i a0) G G G) ?_ G G G G))
  refine hN (u:=I64 ((a+1:Nat):Int)) hE (G3 G G) ?_ G G G G
  refine uW ?_
  exact a2 _ _ (a+1) (d,(c.2+1)) _ (app1 p h) (by omega) ⟨(.sm G G),U,rfl⟩ rfl
 ·
  have h:=app1 j (Hi g (H6 hb))
  refine Ja9 (J6e (J5 h).1)
theorem JS (S_:(Ya)→Option (List ((List G2)×(List G2)))) (hS_:∀ a r,S_ a=some r→kV a r=some ()) (a:Ya) (r:List ((List G2)×(List G2))) (h:S_ a=some r):Iter Ek 116 [.dptr [LS 1 (E1) a.States,LS 1 (E2) a.Water]] (r.map (fun y:(List G2)×(List G2)=>[E1 y.1,E1 y.2])):=JR a r () (hS_ a r h)
end
end Go.Proofs.YthkihfoleenlmaaGreat
