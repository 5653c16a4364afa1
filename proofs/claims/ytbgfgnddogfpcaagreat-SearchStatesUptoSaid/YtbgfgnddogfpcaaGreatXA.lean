/- Walks of functions. -/
import Derived.Test.YtbgfgnddogfpcaaGreatSortLay
import Derived.Test.YtbgfgnddogfpcaaGreatIterJ
import Derived.Test.YtbgfgnddogfpcaaGreatRangeI
import Derived.Test.YtbgfgnddogfpcaaGreatNilA
import Derived.Test.YtbgfgnddogfpcaaGreatIterJ
import Derived.Test.YtbgfgnddogfpcaaGreatNilA
import Derived.Test.YtbgfgnddogfpcaaGreatNilA
set_option maxRecDepth 100000
set_option maxHeartbeats 1000000
set_option linter.unusedVariables false
set_option linter.unusedSimpArgs false
namespace Go.Proofs.YtbgfgnddogfpcaaGreat
open Go.RowKit
noncomputable section
abbrev En:=Tryz.prog
structure Hx where
 n:Int
 low:Int
 high:Int
 deriving DecidableEq,Inhabited
def Hx.cs (x:Hx):AD:=[I64 x.n,I64 x.low,I64 x.high]
def Hx.av (x:Hx):AV:=.agg x.cs
structure G5 where
 Bay:Int
 Row:Int
 BD:Bool
 AC:Int
 Height:Int
 AQ:Int
 AU:Int
 BH:Int
 Plugs:AE
 X:Int
 Y:Int
 Z:Int
 deriving DecidableEq,Inhabited
def G5.cs (x:G5):AD:=[I64 x.Bay,I64 x.Row,BL x.BD,I64 x.AC,I64 x.Height,I64 x.AQ,I64 x.AU,I64 x.BH,E5 x.Plugs,I64 x.X,I64 x.Y,I64 x.Z]
def G5.av (x:G5):AV:=.agg x.cs
abbrev Eh (x:G5):AV:=.GY (G5.cs x)
abbrev E7:=LS 12 G5.av
structure H3 where
 Bay:Int
 Rows:AE
 deriving DecidableEq,Inhabited
def H3.cs (x:H3):AD:=[I64 x.Bay,E5 x.Rows]
def H3.av (x:H3):AV:=.agg x.cs
abbrev E9:=LS 2 H3.av
structure Light where
 AP:Int
 X:Int
 Y:Int
 Z:Int
 deriving DecidableEq,Inhabited
def Light.cs (x:Light):AD:=[I64 x.AP,I64 x.X,I64 x.Y,I64 x.Z]
structure Row where
 Draught:Int
 AP:Int
 Buoy:Int
 BM:Int
 yD:Int
 deriving DecidableEq,Inhabited
def Row.cs (x:Row):AD:=[I64 x.Draught,I64 x.AP,I64 x.Buoy,I64 x.BM,I64 x.yD]
def Row.av (x:Row):AV:=.agg x.cs
abbrev Eb:=LS 5 Row.av
structure Frame where
 X:Int
 Light:Int
 Share:Int
 Shear:Int
 Bend:Int
 deriving DecidableEq,Inhabited
def Frame.cs (x:Frame):AD:=[I64 x.X,I64 x.Light,I64 x.Share,I64 x.Shear,I64 x.Bend]
def Frame.av (x:Frame):AV:=.agg x.cs
abbrev Ea:=LS 5 Frame.av
structure Hf where
 AP:Int
 X:Int
 Y:Int
 Z:Int
 AY:Int
 Steps:AE
 deriving DecidableEq,Inhabited
def Hf.cs (x:Hf):AD:=[I64 x.AP,I64 x.X,I64 x.Y,I64 x.Z,I64 x.AY,E5 x.Steps]
def Hf.av (x:Hf):AV:=.agg x.cs
abbrev Ek (x:Hf):AV:=.GY (Hf.cs x)
abbrev Ec:=LS 6 Hf.av
structure Gk where
 BB:Int
 Trim:Int
 BR:Int
 BC:Int
 deriving DecidableEq,Inhabited
def Gk.cs (x:Gk):AD:=[I64 x.BB,I64 x.Trim,I64 x.BR,I64 x.BC]
structure Gf where
 Columns:List G5
 Covers:List H3
 Light:Light
 Rows:List Row
 Frames:List Frame
 Tanks:List Hf
 Gk:Gk
 deriving DecidableEq,Inhabited
def Gf.cs (x:Gf):AD:=[E7 x.Columns,E9 x.Covers,I64 x.Light.AP,I64 x.Light.X,I64 x.Light.Y,I64 x.Light.Z,Eb x.Rows,Ea x.Frames,Ec x.Tanks,I64 x.Gk.BB,I64 x.Gk.Trim,I64 x.Gk.BR,I64 x.Gk.BC]
abbrev Ef (x:Gf):AV:=.GY (Gf.cs x)
structure Hh where
 e0:Int
 e1:Int
 e2:Int
 deriving DecidableEq,Inhabited
def Hh.cs (x:Hh):AD:=[I64 x.e0,I64 x.e1,I64 x.e2]
def Hh.ks (x:Hh):AK:=[.int .i64 x.e0,.int .i64 x.e1,.int .i64 x.e2]
def Hh.kv (x:Hh):Value:=.agg x.ks.toArray
namespace XAF
theorem Q85 (a b:Hh):qK En 4 160 [.int .i64 a.e0,.int .i64 a.e1,.int .i64 a.e2] [.int .i64 b.e0,.int .i64 b.e1,.int .i64 b.e2]=some (decide (a=b)):=by
 refine(show _=some ((a.e0==b.e0)&&((a.e1==b.e1)&&((a.e2==b.e2)&&true))) by kernel_rfl).trans (congrArg some ?_);rw [Bool.eq_iff_iff];simp only [Pp,beq_iff_eq,Pq,Bool.and_true];constructor
 .intro h; obtain⟨_,_,_⟩:=a; obtain⟨_,_,_⟩:=b; simp_all
 .intro h; subst h; simp
theorem Hf4:gQ En 220 3=true:=zF
theorem Yy:gQ En 62 12=true:=zF
theorem Yx:gQ En 64 2=true:=zF
theorem G3f:Q36 En 160 3 1=true:=zF
theorem YV:H5 En 151=true:=zF
theorem Hcd:H5 En 82=true:=zF
theorem wV:Jk En 220 0 0=true:=zF
theorem G2b:Jk En 220 1 1=true:=zF
theorem G2a:Jk En 220 2 2=true:=zF
theorem Hc:Jk En 32 0 0=true:=zF
theorem Qz:Jk En 32 1 1=true:=zF
theorem cP:Jk En 62 0 0=true:=zF
theorem cO:Jk En 62 1 1=true:=zF
theorem lN:Jk En 62 10 10=true:=zF
theorem lM:Jk En 62 11 11=true:=zF
theorem eG:Jk En 62 2 2=true:=zF
theorem Qy:Jk En 62 3 3=true:=zF
theorem cN:Jk En 62 4 4=true:=zF
theorem nJ:Jk En 62 5 5=true:=zF
theorem nI:Jk En 62 6 6=true:=zF
theorem nH:Jk En 62 7 7=true:=zF
theorem Rm:Jk En 62 8 8=true:=zF
theorem nF:Jk En 62 9 9=true:=zF
theorem bA:Jk En 64 0 0=true:=zF
theorem Qi:Jk En 64 1 1=true:=zF
theorem kL:fD En 159 160 3=true:=zF
theorem Jn:En.follows .mixedOrders=true:=zF
theorem Z0:placesOf En 220=some [(0,1),(1,1),(2,1)]:=zF
theorem Hg:J9 En 22=true:=zF
theorem Rw:J9 En 23=true:=zF
theorem Ga:J9 En 3=true:=zF
theorem bI:J9 En 4=true:=zF
theorem Hm:J9 En 51=true:=zF
theorem H2d:R3 En 220 3=true:=zF
theorem mM:R3 En 62 12=true:=zF
theorem kJ:R3 En 64 2=true:=zF
theorem oP:sliceB En 218 220 3=true:=zF
theorem H7:sliceB En 22 62 12=true:=zF
theorem oO:sliceB En 224 5 1=true:=zF
theorem J8:sliceB En 23 64 2=true:=zF
theorem Gv:sliceB En 51 3 1=true:=zF
theorem YM:(En.info? 160).bind (fun i=>i.zero.map Value.cells)=some (List.toArray [E0,E0,E0]):=zF
theorem bH:(En.info? 220).bind (fun i=>i.zero.map Value.cells)=some (List.toArray [E0,E0,E0]):=zF
theorem uP:Qx En 220 3=true:=zF
theorem G26:Qx En 5 1=true:=zF
theorem iC:Qx En 62 12=true:=zF
theorem iB:Qx En 64 2=true:=zF
theorem yM:(En.info? 3).bind (·.zero)=some E0:=zF
theorem QW:pG En 160 Hh.kv:=pG.of_eq Hh.ks zF (fun a b h=>by simp only [Hh.ks,List.cons.injEq,Value.int.injEq,Value.bool.injEq,Value.string.injEq,true_and,and_true] at h; obtain⟨_,_,_⟩:=a; obtain⟨_,_,_⟩:=b; simp_all) 4 (by decide) (fun a b=>Q85 a b) (fun a=>by kernel_rfl) (fun a=>by simp [Instr.sameBits,Hh.ks])
end XAF
open XAF

def fI (l:List Hx):Option Bool:=each (fun a d (c:Unit) b=>bif ((decide (a.n < a.low))||(decide (a.high < a.n))) then (some false) else (b ())) (fun(c:Unit)=>some true) l 0 ()
theorem uH (l:List Hx) (r:Bool) (h:fI l=some r):Pure En 151 [LS 3 Hx.av l] (·=BL r):=by
 unfold fI at h;refine Gw [.tmp 2] Tryz.func151 G G (Jr fun x=>(JLm (BL false) G (G6 (x (Js fun z=>Jr fun a0=>(JLm (LS 3 Hx.av l) G (JLl oP G G G fun a1=>(JLm (I64 0) G (G6 (a0 (Gi ?_)))))))))));obtain⟨a2,i,j,g,h⟩:=J0 h;refine GO h (fun b c=>[(5,LS 3 Hx.av l),(6,Em l.length),(7,Em b)]) (fun b c=>[]) ⟨(.sm G G),J,G⟩ ?_;clear h;intro b c d a5 a3;refine Jr fun k=>(JLh (BL (decide ((b:Int) < (l.length:Int)))) (Hy G G G) G (G6 (k (Js fun m=>Gh G (fun hb=>?_) (fun hb=>?_)))))
 .have e:=Ji hb;obtain⟨a,a4,o,p,h⟩:=Hn d e;replace h:=Ry j h;refine Gj (m (Js fun q=>Gi (Jr fun s=>(JLh (.GY [I64 a.n,I64 a.low,I64 a.high]) (Gs (f:=Hx.av) (xs:=l) (y:=a) G G G oP o G) G (JLh (.agg [I64 a.n,I64 a.low,I64 a.high]) (Gm Hf4 G G G) G (JLh (.ptr 1174 0) (Jm 1174 3 uP G G) G (Hz (u:=.AL) (Hi (u:=.agg [I64 a.n,I64 a.low,I64 a.high]) (ds:=[I64 a.n,I64 a.low,I64 a.high]) H2d G G G G G G G G) (G6 (s (fzQ [(4,.GY [I64 a.n,I64 a.low,I64 a.high]),(5,LS 3 Hx.av l),(6,Em l.length),(7,Em b)] [] 1174 rfl rfl rfl J rfl ?_))))))))));refine Jr fun t=>(JLh (.GY [I64 a.n,I64 a.low,I64 a.high]) (G9 wV G G G) G (JLh (I64 a.n) (Gc Ga G G G) G (JLh (.GY [I64 a.low,I64 a.high]) (G9 G2b G G G) G (JLh (I64 a.low) (Gc Ga G G G) G (JLh (BL (decide (a.n < a.low))) (Hy G G G) G (JLm (BL (decide (a.n < a.low))) G (JLo (.GY [I64 a.n,I64 a.low,I64 a.high]) [] G .scf J (fun hc=>G9 wV G G G) G (JLo (I64 a.n) [17] G .scf ⟨Ua,J⟩ (fun hc=>Gc Ga G G G) G (JLo (.GY [I64 a.high]) [] G .scf J (fun hc=>G9 G2a G G G) G (JLo (I64 a.high) [19] G .scf ⟨Ua,J⟩ (fun hc=>Gc Ga G G G) G (JLo (BL (decide (a.high < a.n))) [18,20] G .scf ⟨Ua,Ua,J⟩ (fun hc=>Yi G G G) G (JLh (BL ((decide (a.n < a.low))||(decide (a.high < a.n)))) (Ro G G G G) G (G6 (t ?_))))))))))))));refine JCc G h ?_ ?_<;>intro h hb
  .refine Jr fun v=>(JLm (BL false) G (G6 (v (Gp (AF BL h)))))
  .refine Gj (q (G1 (JLh (I64 ((b+1:Nat):Int)) (Hw (H9 e a1) G G G) G (JLm (I64 ((b+1:Nat):Int)) G (G6 (a3 _ _ (b+1) () (app1 p h) (by omega) ⟨(.sm G G),J,rfl⟩))))))
 .have h:=app1 g (Ho d (H8 hb));refine Ha (z (Jr fun w=>(JLm (BL true) G (G6 (w (Gp (AF BL h)))))))

def iT (c:G5):Option Bool:=each (fun d a (f:Unit) e=>wrp (c.AC - 1) fun g=>bnd (fI [(Hx.mk d 0 g)]) fun b=>bnd (bif ((!(!b))&&(decide (0 < (a:Int)))) then some (IntKind.i64.wrap ((a:Int) - 1)) else some 0) fun h=>bnd (bif ((!(!b))&&(decide (0 < (a:Int)))) then Jw c.Plugs h some else some default) fun i=>bif ((!b)||((decide (0 < (a:Int)))&&(decide (d<=i)))) then (some false) else (e ())) (fun(f:Unit)=>bnd (fI [(Hx.mk c.Bay 0 39),(Hx.mk c.Row 0 30),(Hx.mk c.AC 1 10),(Hx.mk c.Height 0 40000),(Hx.mk c.AQ 0 500000000),(Hx.mk c.AU 0 500000000),(Hx.mk c.BH 0 1000000000000),(Hx.mk c.X (-500000) 500000),(Hx.mk c.Y (-500000) 500000),(Hx.mk c.Z (-500000) 500000)]) fun j=>some j) c.Plugs 0 ()
abbrev Eo (c:G5):List Hx:=[(Hx.mk c.Bay 0 39),(Hx.mk c.Row 0 30),(Hx.mk c.AC 1 10),(Hx.mk c.Height 0 40000),(Hx.mk c.AQ 0 500000000),(Hx.mk c.AU 0 500000000),(Hx.mk c.BH 0 1000000000000),(Hx.mk c.X (-500000) 500000),(Hx.mk c.Y (-500000) 500000),(Hx.mk c.Z (-500000) 500000)]
abbrev Ep (c:G5):AD:=[I64 c.AC,I64 c.Height,I64 c.AQ,I64 c.AU,I64 c.BH,E5 c.Plugs,I64 c.X,I64 c.Y,I64 c.Z]
abbrev Er (c:G5):AD:=[I64 c.BH,I64 0,I64 1000000000000]
abbrev Es (c:G5):AD:=[I64 c.AQ,I64 0,I64 500000000]
abbrev Eu (c:G5):AD:=[I64 c.AU,I64 0,I64 500000000]
abbrev Ev (c:G5):AD:=[I64 c.Z,I64 (-500000),I64 500000]
abbrev Ew (c:G5):AD:=[I64 c.X,I64 (-500000),I64 500000]
abbrev Ex (c:G5):AD:=[I64 c.Y,I64 (-500000),I64 500000]
abbrev Ey (c:G5):AD:=[I64 c.Height,I64 0,I64 40000]
theorem G77 (c:G5) (r:Bool) (h:iT c=some r):Pure En 82 [.agg (G5.cs c)] (·=BL r):=by
 unfold iT at h;refine Gw [.tmp 2] Tryz.func82 G G (Jr fun a7=>(JLh (.ptr 1121 0) (Jp (cs:=(G5.cs c)) 1121 G G G G G) G (JLm (BL false) G (G6 (a7 (Gu [(1,Eh c)] [] 1121 rfl rfl rfl J rfl (by exact⟨.ptr,J⟩) (Jr fun a8=>(JLm (.fn 151 []) G (G6 (a8 (Js fun a9=>Jr fun b0=>(JLh (.GY [E5 c.Plugs,I64 c.X,I64 c.Y,I64 c.Z]) (G9 Rm G G G) G (JLh (E5 c.Plugs) (Gc Hm G G G) G (JLl Gv G G G fun b1=>(JLm (I64 0) G (G6 (b0 (Gi ?_))))))))))))))))));obtain⟨b2,o,p,n,h⟩:=J0 h;refine GO h (fun a j=>[(1,Eh c),(3,.fn 151 []),(7,E5 c.Plugs),(8,Em c.Plugs.length),(9,Em a)]) (fun a j=>[]) ⟨(.sm G G),J,rfl⟩ ?_;clear h;intro a j k b6 b3;refine Jr fun q=>(JLh (BL (decide ((a:Int) < (c.Plugs.length:Int)))) (Hy G G G) G (G6 (q (Js fun s=>Gh G (fun hb=>?_) (fun hb=>?_)))))
 .have l:=Ji hb;obtain⟨d,b5,t,v,h⟩:=Hn k l;replace h:=Ry p h;refine Gj (s (Js fun w=>Gi (Jr fun x=>(JLm (Em a) G (JLh (.GY [I64 d]) (Gs (f:=I64) (xs:=c.Plugs) (y:=d) G G G Gv t G) G (JLh (I64 d) (Gc Ga G G G) G (JLm (Em a) G (JLm (I64 d) G (G6 (x (Jr fun z=>(JLm (.fn 151 []) G (JLm (I64 d) G (JLh (.GY (Ep c)) (G9 Qy G G G) G (JLh (I64 c.AC) (Gc Ga G G G) G ?_)))))))))))))));obtain⟨e,a0,h⟩:=Gea h;refine JLh (I64 e) (mJ a0 G G G) G (JLh (.agg [I64 d,I64 0,I64 e]) (Jf (cs:=[I64 d,I64 0,I64 e]) [(0,1),(1,1),(2,1)] [I64 0,I64 0,I64 0] [E0,E0,E0] Z0 bH (zzQ G) G G) G (JLh (LS 3 Hx.av [(Hx.mk d 0 e)]) (Hv (xs:=[.agg [I64 d,I64 0,I64 e]]) G ⟨G,G,J⟩ oP uP G G G G) G ?_));obtain⟨g,a1,h⟩:=Gd h;refine JLh (BL g) (gF (args:=[LS 3 Hx.av [(Hx.mk d 0 e)]]) (AZ:=[]) G G (uH [(Hx.mk d 0 e)] g a1) YV ⟨G,G,J⟩ G) G (JLh (BL (!g)) (Qs (b:=g) G G) G (JLm (BL (!g)) G (JLo (Em a) [] G .scf J (fun hc=>G3 G G) G (JLo (BL (decide (0 < (a:Int)))) [24] G .scf ⟨Ua,J⟩ (fun hc=>Yi G G G) G (JLo (BL (decide (0 < (a:Int)))) [25] G .scf ⟨Ua,J⟩ (fun hc=>G3 G G) G (JLo (I64 d) [] G .optt J (fun hc=>G3 G G) G (JLo (.GY [E5 c.Plugs,I64 c.X,I64 c.Y,I64 c.Z]) [] G .optt J (fun hc=>G9 Rm G G G) G (JLo (E5 c.Plugs) [28] G .optt ⟨Ua,J⟩ (fun hc=>Gc Hm G G G) G (JLo (Em a) [] G .optt J (fun hc=>G3 G G) G ?_)))))))));obtain⟨b4,a2,h⟩:=Gd h;refine JLo (I64 b4) [30] G .optt ⟨Ua,J⟩ (fun hc=>mJ (Pc (Gz hc a2)) G G G) G ?_;obtain⟨i,a3,h⟩:=Gd h;refine JLo (.GY [I64 i]) [29,31] G .optt ⟨Ua,Ua,J⟩ (fun hc=>(match Qq (Gz hc a3) with | ⟨_,hm_,hy_⟩=>Gs (f:=I64) (xs:=c.Plugs) (y:=i) G G G Gv hy_ hm_)) G (JLo (I64 i) [32] G .optt ⟨Ua,J⟩ (fun hc=>Gc Ga G G G) G (JLo (BL (decide (d<=i))) [27,33] G .optt ⟨Ua,Ua,J⟩ (fun hc=>mK G G G) G (G8 (u:=BL ((decide (0 < (a:Int)))&&(decide (d<=i)))) [(26,BL (decide (0 < (a:Int)))),(34,_)] G G G .scf ⟨.all id,.part,J⟩ (fun hc=>Jd G G G G) ?_)))
  refine JLh (BL ((!g)||((decide (0 < (a:Int)))&&(decide (d<=i))))) (Ro G G G G) G (G6 (z (JCc G h (fun h hb=>?_) (fun h hb=>?_))))
  .refine Jr fun a4=>(JLm (BL false) G (G6 (a4 (Gp (AF BL h)))))
  .refine Gj (w (G1 (JLh (I64 ((a+1:Nat):Int)) (Hw (H9 l b1) G G G) G (JLm (I64 ((a+1:Nat):Int)) G (G6 (b3 _ _ (a+1) () (app1 v h) (by omega) ⟨(.sm G G),J,rfl⟩))))))
 .have h:=app1 n (Ho k (H8 hb));refine Ha (a9 ?_);refine Jr fun a5=>(JLm (.fn 151 []) G (JLh (Eh c) (G9 cP G G G) G (JLh (I64 c.Bay) (Gc Ga G G G) G (JLh (.agg [I64 c.Bay,I64 0,I64 39]) (Jf (cs:=[I64 c.Bay,I64 0,I64 39]) [(0,1),(1,1),(2,1)] [I64 0,I64 0,I64 0] [E0,E0,E0] Z0 bH (zzQ G) G G) G (JLh (.GY [I64 c.Row,BL c.BD,I64 c.AC,I64 c.Height,I64 c.AQ,I64 c.AU,I64 c.BH,E5 c.Plugs,I64 c.X,I64 c.Y,I64 c.Z]) (G9 cO G G G) G (JLh (I64 c.Row) (Gc Ga G G G) G (JLh (.agg [I64 c.Row,I64 0,I64 30]) (Jf (cs:=[I64 c.Row,I64 0,I64 30]) [(0,1),(1,1),(2,1)] [I64 0,I64 0,I64 0] [E0,E0,E0] Z0 bH (zzQ G) G G) G (JLh (.GY (Ep c)) (G9 Qy G G G) G (JLh (I64 c.AC) (Gc Ga G G G) G (JLh (.agg [I64 c.AC,I64 1,I64 10]) (Jf (cs:=[I64 c.AC,I64 1,I64 10]) [(0,1),(1,1),(2,1)] [I64 0,I64 0,I64 0] [E0,E0,E0] Z0 bH (zzQ G) G G) G (JLh (.GY [I64 c.Height,I64 c.AQ,I64 c.AU,I64 c.BH,E5 c.Plugs,I64 c.X,I64 c.Y,I64 c.Z]) (G9 cN G G G) G (JLh (I64 c.Height) (Gc Ga G G G) G (JLh (.agg (Ey c)) (Jf (cs:=(Ey c)) [(0,1),(1,1),(2,1)] [I64 0,I64 0,I64 0] [E0,E0,E0] Z0 bH (zzQ G) G G) G ?_)))))))))))));refine JLh (.GY [I64 c.AQ,I64 c.AU,I64 c.BH,E5 c.Plugs,I64 c.X,I64 c.Y,I64 c.Z]) (G9 nJ G G G) G (JLh (I64 c.AQ) (Gc Ga G G G) G (JLh (.agg (Es c)) (Jf (cs:=(Es c)) [(0,1),(1,1),(2,1)] [I64 0,I64 0,I64 0] [E0,E0,E0] Z0 bH (zzQ G) G G) G (JLh (.GY [I64 c.AU,I64 c.BH,E5 c.Plugs,I64 c.X,I64 c.Y,I64 c.Z]) (G9 nI G G G) G (JLh (I64 c.AU) (Gc Ga G G G) G (JLh (.agg (Eu c)) (Jf (cs:=(Eu c)) [(0,1),(1,1),(2,1)] [I64 0,I64 0,I64 0] [E0,E0,E0] Z0 bH (zzQ G) G G) G (JLh (.GY [I64 c.BH,E5 c.Plugs,I64 c.X,I64 c.Y,I64 c.Z]) (G9 nH G G G) G (JLh (I64 c.BH) (Gc Ga G G G) G (JLh (.agg (Er c)) (Jf (cs:=(Er c)) [(0,1),(1,1),(2,1)] [I64 0,I64 0,I64 0] [E0,E0,E0] Z0 bH (zzQ G) G G) G (JLh (.GY [I64 c.X,I64 c.Y,I64 c.Z]) (G9 nF G G G) G (JLh (I64 c.X) (Gc Ga G G G) G (JLh (.agg (Ew c)) (Jf (cs:=(Ew c)) [(0,1),(1,1),(2,1)] [I64 0,I64 0,I64 0] [E0,E0,E0] Z0 bH (zzQ G) G G) G (JLh (.GY [I64 c.Y,I64 c.Z]) (G9 lN G G G) G (JLh (I64 c.Y) (Gc Ga G G G) G ?_)))))))))))));refine JLh (.agg (Ex c)) (Jf (cs:=(Ex c)) [(0,1),(1,1),(2,1)] [I64 0,I64 0,I64 0] [E0,E0,E0] Z0 bH (zzQ G) G G) G (JLh (.GY [I64 c.Z]) (G9 lM G G G) G (JLh (I64 c.Z) (Gc Ga G G G) G (JLh (.agg (Ev c)) (Jf (cs:=(Ev c)) [(0,1),(1,1),(2,1)] [I64 0,I64 0,I64 0] [E0,E0,E0] Z0 bH (zzQ G) G G) G (JLh (LS 3 Hx.av (Eo c)) (Hv (xs:=[.agg [I64 c.Bay,I64 0,I64 39],.agg [I64 c.Row,I64 0,I64 30],.agg [I64 c.AC,I64 1,I64 10],.agg (Ey c),.agg (Es c),.agg (Eu c),.agg (Er c),.agg (Ew c),.agg (Ex c),.agg (Ev c)]) G ⟨G,G,G,G,G,G,G,G,G,G,G,G,G,G,G,G,G,G,G,G,J⟩ oP uP G G G G) G ?_))));obtain⟨m,a6,h⟩:=Gd h;refine JLh (BL m) (gF (args:=[LS 3 Hx.av (Eo c)]) (AZ:=[]) G G (uH (Eo c) m a6) YV ⟨G,G,J⟩ G) G (JLm (BL m) G (G6 (a5 (Gp (AF BL h)))))

def lW (s:Gf) (Rp:Bool->Prop):Option Prop:=bif (((decide ((s.Columns.length:Int) < 1))||(decide (200 < (s.Columns.length:Int))))||(decide (40 < (s.Covers.length:Int)))) then (some (Rp false)) else (each (fun c y (f:(Hk Hh Int)) m=>jp (fun g=>bif c.BD then (g 1) else (g 0)) fun(k:Int)=>bnd (some (Hk.get f (Hh.mk c.Bay c.Row k) 0)) fun v=>chk (v+1) fun w=>bnd (iT c) fun x=>bif (!x) then (some (Rp false)) else (m (Hk.put f (Hh.mk c.Bay c.Row k) w))) (fun(f:(Hk Hh Int))=>each (fun b z (h:(Hk Hh Int)) n=>bif (((decide (b.Bay < 0))||(decide (40<=b.Bay)))||(decide ((b.Rows.length:Int)=0))) then (some (Rp false)) else (each (fun a d (e:(Hk Hh Int)) i=>bnd (bif ((!((decide (a < 0))||(decide (30 < a))))&&(decide (0 < (d:Int)))) then chk ((d:Int) - 1) some else some 0) fun o=>bnd (bif ((!((decide (a < 0))||(decide (30 < a))))&&(decide (0 < (d:Int)))) then Jw b.Rows o some else some default) fun p=>bif (((decide (a < 0))||(decide (30 < a)))||((decide (0 < (d:Int)))&&(decide (a<=p)))) then (some (Rp false)) else (bnd (some (Hk.get e (Hh.mk b.Bay a 2) 0)) fun q=>chk (q+1) fun r=>i (Hk.put e (Hh.mk b.Bay a 2) r))) (fun(e:(Hk Hh Int))=>n e) b.Rows 0 h)) (fun(h:(Hk Hh Int))=>H8a (fun(t:Hh×Int) (u:Unit) j=>bif decide (1 < t.2) then (lft (some (Rp false))) else (j ())) (fun(u:Unit)=>some (Rp true)) (Hk.l h) ()) s.Covers 0 f) s.Columns 0 (Hk.empty:Hk Hh Int))
def pH (s:Gf):Option Bool:=bif (((decide ((s.Columns.length:Int) < 1))||(decide (200 < (s.Columns.length:Int))))||(decide (40 < (s.Covers.length:Int)))) then (some (id false)) else (each (fun c y (f:(Hk Hh Int)) m=>jp (fun g=>bif c.BD then (g 1) else (g 0)) fun(k:Int)=>bnd (some (Hk.get f (Hh.mk c.Bay c.Row k) 0)) fun v=>chk (v+1) fun w=>bnd (iT c) fun x=>bif (!x) then (some (id false)) else (m (Hk.put f (Hh.mk c.Bay c.Row k) w))) (fun(f:(Hk Hh Int))=>each (fun b z (h:(Hk Hh Int)) n=>bif (((decide (b.Bay < 0))||(decide (40<=b.Bay)))||(decide ((b.Rows.length:Int)=0))) then (some (id false)) else (each (fun a d (e:(Hk Hh Int)) i=>bnd (bif ((!((decide (a < 0))||(decide (30 < a))))&&(decide (0 < (d:Int)))) then chk ((d:Int) - 1) some else some 0) fun o=>bnd (bif ((!((decide (a < 0))||(decide (30 < a))))&&(decide (0 < (d:Int)))) then Jw b.Rows o some else some default) fun p=>bif (((decide (a < 0))||(decide (30 < a)))||((decide (0 < (d:Int)))&&(decide (a<=p)))) then (some (id false)) else (bnd (some (Hk.get e (Hh.mk b.Bay a 2) 0)) fun q=>chk (q+1) fun r=>i (Hk.put e (Hh.mk b.Bay a 2) r))) (fun(e:(Hk Hh Int))=>n e) b.Rows 0 h)) (fun(h:(Hk Hh Int))=>Ga7 (fun(t:Hh×Int) (u:Unit) j=>bif decide (1 < t.2) then (lft (some (id false))) else (j ())) (fun(u:Unit)=>some (id true)) (Hk.l h) ()) s.Covers 0 f) s.Columns 0 (Hk.empty:Hk Hh Int))
abbrev Ez (s:Gf):AD:=[E9 s.Covers,I64 s.Light.AP,I64 s.Light.X,I64 s.Light.Y,I64 s.Light.Z,Eb s.Rows,Ea s.Frames,Ec s.Tanks,I64 s.Gk.BB,I64 s.Gk.Trim,I64 s.Gk.BR,I64 s.Gk.BC]
abbrev K0 (s:Gf):Bool:=((decide ((s.Columns.length:Int) < 1))||(decide (200 < (s.Columns.length:Int))))
abbrev Ka (a:(Hk Hh Int)):Loc:=[(1073,MP 159 Hh.kv I64 a)]
theorem G78 (s:Gf) (Rp:Bool->Prop) (p:Prop) (h:lW s Rp=some p) (hp:p):Pure En 42 [.agg (Gf.cs s)] (fun av=>∃ r,Rp r/\av=BL r):=by
 unfold lW at h;refine Gw [.tmp 2] Tryz.func42 G G (Jr fun i8=>(JLh (.ptr 1070 0) (Jp (cs:=(Gf.cs s)) 1070 G G G G G) G (JLm (BL false) G (G6 (i8 (Gu [(1,Ef s)] [] 1070 rfl rfl rfl J rfl (by exact⟨.ptr,J⟩) (Js fun i9=>?_)))))));refine Jr fun j0=>(JLh (Ef s) (G9 Hc G G G) G (JLh (E7 s.Columns) (Gc Hg G G G) G (JLl H7 G G G fun k2=>(JLh (BL (decide ((s.Columns.length:Int) < 1))) (Hy G G G) G (JLm (BL (decide ((s.Columns.length:Int) < 1))) G (JLo (Ef s) [] G .scf J (fun hc=>G9 Hc G G G) G (JLo (E7 s.Columns) [18] G .scf ⟨Ua,J⟩ (fun hc=>Gc Hg G G G) G (JLo (Em s.Columns.length) [19] G .scf ⟨Ua,J⟩ (fun hc=>Qj (f:=G5.av) (xs:=s.Columns) H7 G G) G (JLo (BL (decide (200 < (s.Columns.length:Int)))) [20] G .scf ⟨Ua,J⟩ (fun hc=>Yi G G G) G (JLh (BL (K0 s)) (Ro G G G G) G (JLm (BL (K0 s)) G (JLo (.GY (Ez s)) [] G .scf J (fun hc=>G9 Qz G G G) G (JLo (E9 s.Covers) [24] G .scf ⟨Ua,J⟩ (fun hc=>Gc Rw G G G) G ?_)))))))))))));refine JLo (Em s.Covers.length) [25] G .scf ⟨Ua,J⟩ (fun hc=>Qj (f:=H3.av) (xs:=s.Covers) J8 G G) G (JLo (BL (decide (40 < (s.Covers.length:Int)))) [26] G .scf ⟨Ua,J⟩ (fun hc=>Yi G G G) G (JLh (BL ((K0 s)||(decide (40 < (s.Covers.length:Int))))) (Ro G G G G) G (G6 (j0 (JCc G h (fun h hb=>?_) (fun h hb=>?_))))))
 .refine Jr fun j1=>(JLm (BL false) G (G6 (j1 (Gp (⟨[BL false],[],J,G,⟨⟨_,G,.conv (.same G)⟩,J⟩,G,false,Eq.mpr (Pc h) hp,G⟩)))))
 .refine Gj (i9 (Jr fun j2=>(JLh (.mp 1073) (HN 1073 Hh.kv I64 G G) G (JLm (.mp 1073) G (G6 (j2 (Js fun j3=>Jr fun j4=>(JLh (Ef s) (G9 Hc G G G) G (JLh (E7 s.Columns) (Gc Hg G G G) G (JLl H7 G G G fun f0=>(JLm (I64 0) G (G6 (j4 (Gi ?_))))))))))))));obtain⟨j5,f1,f2,c4,h⟩:=J0 h;refine GO h (fun o k=>[(1,Ef s),(3,.mp 1073),(31,E7 s.Columns),(32,Em s.Columns.length),(33,Em o)]) (fun o k=>(Ka k)) ⟨(.sm G G),⟨fmQ G,J⟩,rfl⟩ ?_;clear h;intro o k b5 k8 j6;refine Jr fun f3=>(JLh (BL (decide ((o:Int) < (s.Columns.length:Int)))) (Hy G G G) G (G6 (f3 (Js fun f4=>Gh G (fun hb=>?_) (fun hb=>?_)))))
  .have b6:=Ji hb;obtain⟨g,k3,f5,f6,h⟩:=Hn b5 b6;replace h:=Ry f2 h;refine Gj (f4 (Js fun f7=>Gi (Jr fun f8=>(JLh (Eh g) (Gs (f:=G5.av) (xs:=s.Columns) (y:=g) G G G H7 f5 G) G (JLh (.agg (G5.cs g)) (Gm Yy G G G) G (JLh (.ptr 1071 0) (Jm 1071 12 iC G G) G (Hz (u:=.AL) (Hi (u:=.agg (G5.cs g)) (ds:=(G5.cs g)) mM G G G G G G G G) (G6 (f8 ?_)))))))));refine fzQ [(1,Ef s),(3,.mp 1073),(5,Eh g),(31,E7 s.Columns),(32,Em s.Columns.length),(33,Em o)] (Ka k) 1071 rfl rfl rfl ⟨fmQ G,J⟩ rfl (Jr fun f9=>(JLm (I64 0) G (G6 (f9 ?_))));obtain⟨g0,c5,h⟩:=eJ h;refine Yd (fun n:Int=>g0 n=some p) (fun n=>[(1,Ef s),(3,.mp 1073),(5,Eh g),(6,I64 n),(31,E7 s.Columns),(32,Em s.Columns.length),(33,Em o)]) (fun n=>(Ka k)) (fun Kj74 ej74=>?_) ?_
   .refine Jr fun g1=>(JLh (.GY ((G5.cs g).drop 2)) (G9 eG G G G) G (JLh (BL g.BD) (Gc bI G G G) G (G6 (g1 (JCc G h (fun h hb=>?_) (fun h hb=>?_))))))
    .refine G1 (JLm (I64 1) G (G6 (ej74 _ _ 1 h ⟨(.sm G G),⟨fmQ G,J⟩,rfl⟩)))
    .refine Gj (ej74 _ _ 0 h ⟨(.sm G G),⟨fmQ G,J⟩,rfl⟩)
   .intro n h;replace h:=app1 c5 h;refine Js fun g2=>iV (l':=[(1,Ef s),(3,.mp 1073),(5,Eh g),(6,I64 n),(31,E7 s.Columns),(32,Em s.Columns.length),(33,Em o)]) (L':=(Ka k)) ⟨(.sm G G),⟨fmQ G,J⟩,rfl⟩ ?_;obtain⟨j7,b7,h⟩:=Gd h;obtain⟨a4,b8,h⟩:=R7 h;refine Q1 [9,11] [0,0,0,0,0,0,0,0,0,0,1,0] [0,0,0,0,0,0,0,1,1,0,1,0] [(Ka k),((1073,MI 159 Hh.kv I64 k (Hh.mk g.Bay g.Row n) 0)::(Ka k)),((1073,MP 159 Hh.kv I64 (Hk.put k (Hh.mk g.Bay g.Row n) a4))::((1073,MI 159 Hh.kv I64 k (Hh.mk g.Bay g.Row n) 0)::(Ka k)))] Jn zF rfl rfl ?_;refine Gb (u:=.mp 1073) G G ⟨Gr (G3 G G) G,J⟩ (Gb (u:=Eh g) G G ⟨Gr (G9 cP G G G) G,J⟩ (Gb (u:=I64 g.Bay) G G ⟨Gr (Gc Ga G G G) G,J⟩ (Gb (u:=.GY ((G5.cs g).drop 1)) G G ⟨Gr (G9 cO G G G) G,J⟩ (Gb (u:=I64 g.Row) G G ⟨Gr (Gc Ga G G G) G,J⟩ (Gb (u:=I64 n) G G ⟨Gr (G3 G G) G,J⟩ (Gb (u:=.agg [I64 g.Bay,I64 g.Row,I64 n]) G G ⟨Gr (HP (cs:=[I64 g.Bay,I64 g.Row,I64 n]) [E0,E0,E0] G3f YM G G) G,J⟩ (Gb (u:=I64 j7) G G ⟨Gr (((Pc b7) ▸ G8c (av:=I64) (m:=k) (a:=(Hh.mk g.Bay g.Row n)) 0 E0 G G G G QW kL yM G)) G,Gr (((Pc b7) ▸ G8a (av:=I64) (m:=k) (a:=(Hh.mk g.Bay g.Row n)) 0 E0 G G G G QW kL yM G)) G,J⟩ (Gb (u:=I64 a4) G G ⟨Gr (Hw b8 G G G) G,Gr (Hw b8 G G G) G,J⟩ (D_w (u:=.tup [.AL,I64 (dS (Hk.l k) (Hh.mk g.Bay g.Row n):Int)]) G G G G (Gr (G07 (m:=k) (a:=(Hh.mk g.Bay g.Row n)) 0 E0 G G G G QW kL yM G) G) (Gb (u:=I64 (dS (Hk.l k) (Hh.mk g.Bay g.Row n):Int)) G G ⟨Gr (Jh G G G) G,J⟩ (Q47 (u:=.AL) G G G G (Gr (zX (m:=k) (a:=(Hh.mk g.Bay g.Row n)) (v:=a4) 0 G G G G G G) G) (Y2 ?_))))))))))));refine g2 (Jr fun g3=>(JLh (.agg (G5.cs g)) (Gm Yy G G G) G ?_));obtain⟨a5,g4,h⟩:=Gd h;refine JLh (BL a5) (Gq G (G77 g a5 g4) Hcd ⟨G,G,J⟩) G (JLh (BL (!a5)) (Qs (b:=a5) G G) G (G6 (g3 (JCc G h (fun h hb=>?_) (fun h hb=>?_)))))
    .refine Jr fun g5=>(JLm (BL false) G (G6 (g5 (Gp (⟨[BL false],[],J,G,⟨⟨_,G,.conv (.same G)⟩,J⟩,G,false,Eq.mpr (Pc h) hp,G⟩)))))
    .refine Gj (f7 (G1 (JLh (I64 ((o+1:Nat):Int)) (Hw (H9 b6 f0) G G G) G (JLm (I64 ((o+1:Nat):Int)) G (G6 (j6 _ _ (o+1) (Hk.put k (Hh.mk g.Bay g.Row n) a4) (app1 f6 h) (by omega) ⟨(.sm G G),⟨fmQ G,J⟩,rfl⟩))))))
  .have h:=app1 c4 (Ho b5 (H8 hb));refine Ha (j3 (Js fun g6=>Jr fun g7=>(JLh (.GY (Ez s)) (G9 Qz G G G) G (JLh (E9 s.Covers) (Gc Rw G G G) G (JLl J8 G G G fun g8=>(JLm (I64 0) G (G6 (g7 (Gi ?_)))))))));obtain⟨j8,g9,h0,c6,h⟩:=J0 h;refine GO h (fun t w=>[(3,.mp 1073),(55,E9 s.Covers),(56,Em s.Covers.length),(57,Em t)]) (fun t w=>(Ka w)) ⟨(.sm G G),⟨fmQ G,J⟩,rfl⟩ ?_;clear h;intro t w b9 k9 j9;refine Jr fun h1=>(JLh (BL (decide ((t:Int) < (s.Covers.length:Int)))) (Hy G G G) G (G6 (h1 (Js fun h2=>Gh G (fun hb=>?_) (fun hb=>?_)))))
   .have c0:=Ji hb;obtain⟨c,k4,h3,h4,h⟩:=Hn b9 c0;replace h:=Ry h0 h;refine Gj (h2 (Js fun h5=>Gi (Jr fun h6=>(JLh (.GY [I64 c.Bay,E5 c.Rows]) (Gs (f:=H3.av) (xs:=s.Covers) (y:=c) G G G J8 h3 G) G (JLh (.agg [I64 c.Bay,E5 c.Rows]) (Gm Yx G G G) G (JLh (.ptr 1072 0) (Jm 1072 2 iB G G) G (Hz (u:=.AL) (Hi (u:=.agg [I64 c.Bay,E5 c.Rows]) (ds:=[I64 c.Bay,E5 c.Rows]) kJ G G G G G G G G) (G6 (h6 (fzQ [(3,.mp 1073),(8,.GY [I64 c.Bay,E5 c.Rows]),(55,E9 s.Covers),(56,Em s.Covers.length),(57,Em t)] (Ka w) 1072 rfl rfl rfl ⟨fmQ G,J⟩ rfl (Js fun h7=>?_)))))))))));refine Jr fun h8=>(JLh (.GY [I64 c.Bay,E5 c.Rows]) (G9 bA G G G) G (JLh (I64 c.Bay) (Gc Ga G G G) G (JLh (BL (decide (c.Bay < 0))) (Hy G G G) G (JLm (BL (decide (c.Bay < 0))) G (JLo (.GY [I64 c.Bay,E5 c.Rows]) [] G .scf J (fun hc=>G9 bA G G G) G (JLo (I64 c.Bay) [65] G .scf ⟨Ua,J⟩ (fun hc=>Gc Ga G G G) G (JLo (BL (decide (40<=c.Bay))) [66] G .scf ⟨Ua,J⟩ (fun hc=>dG G G G) G (JLh (BL ((decide (c.Bay < 0))||(decide (40<=c.Bay)))) (Ro G G G G) G (JLm (BL ((decide (c.Bay < 0))||(decide (40<=c.Bay)))) G (JLo (.GY [E5 c.Rows]) [] G .scf J (fun hc=>G9 Qi G G G) G (JLo (E5 c.Rows) [70] G .scf ⟨Ua,J⟩ (fun hc=>Gc Hm G G G) G (JLo (Em c.Rows.length) [71] G .scf ⟨Ua,J⟩ (fun hc=>Qj (f:=I64) (xs:=c.Rows) Gv G G) G (JLo (BL (decide ((c.Rows.length:Int)=0))) [72] G .scf ⟨Ua,J⟩ (fun hc=>Q7 G G G) G ?_)))))))))))));refine JLh (BL (((decide (c.Bay < 0))||(decide (40<=c.Bay)))||(decide ((c.Rows.length:Int)=0)))) (Ro G G G G) G (G6 (h8 (JCc G h (fun h hb=>?_) (fun h hb=>?_))))
    .refine Jr fun h9=>(JLm (BL false) G (G6 (h9 (Gp (⟨[BL false],[],J,G,⟨⟨_,G,.conv (.same G)⟩,J⟩,G,false,Eq.mpr (Pc h) hp,G⟩)))))
    .refine Gj (h7 (Jr fun i0=>(JLh (.GY [E5 c.Rows]) (G9 Qi G G G) G (JLh (E5 c.Rows) (Gc Hm G G G) G (JLl Gv G G G fun i1=>(JLm (I64 0) G (G6 (i0 (Gi ?_)))))))));obtain⟨i2,c7,c8,c1,h⟩:=J0 h;refine GO h (fun i j=>[(3,.mp 1073),(8,.GY [I64 c.Bay,E5 c.Rows]),(55,E9 s.Covers),(56,Em s.Covers.length),(57,Em t),(76,E5 c.Rows),(77,Em c.Rows.length),(78,Em i)]) (fun i j=>(Ka j)) ⟨(.sm G G),⟨fmQ G,J⟩,rfl⟩ ?_;clear h;intro i j a6 k5 i3;refine Jr fun c9=>(JLh (BL (decide ((i:Int) < (c.Rows.length:Int)))) (Hy G G G) G (G6 (c9 (Js fun d0=>Gh G (fun hb=>?_) (fun hb=>?_)))))
     .have a7:=Ji hb;obtain⟨d,k0,d1,d2,h⟩:=Hn a6 a7;replace h:=Ry c8 h;refine Gj (d0 (Js fun d3=>Gi (Jr fun d4=>(JLm (Em i) G (JLh (.GY [I64 d]) (Gs (f:=I64) (xs:=c.Rows) (y:=d) G G G Gv d1 G) G (JLh (I64 d) (Gc Ga G G G) G (JLm (Em i) G (JLm (I64 d) G (G6 (d4 (Js fun d5=>?_)))))))))));refine Jr fun d6=>(JLm (I64 d) G (JLh (BL (decide (d < 0))) (Hy G G G) G (JLm (BL (decide (d < 0))) G (JLo (I64 d) [] G .scf J (fun hc=>G3 G G) G (JLo (BL (decide (30 < d))) [86] G .scf ⟨Ua,J⟩ (fun hc=>Yi G G G) G (JLh (BL ((decide (d < 0))||(decide (30 < d)))) (Ro G G G G) G (JLm (BL ((decide (d < 0))||(decide (30 < d)))) G (JLo (Em i) [] G .scf J (fun hc=>G3 G G) G (JLo (BL (decide (0 < (i:Int)))) [90] G .scf ⟨Ua,J⟩ (fun hc=>Yi G G G) G (JLo (BL (decide (0 < (i:Int)))) [91] G .scf ⟨Ua,J⟩ (fun hc=>G3 G G) G (JLo (I64 d) [] G .optt J (fun hc=>G3 G G) G (JLo (.GY [E5 c.Rows]) [] G .optt J (fun hc=>G9 Qi G G G) G (JLo (E5 c.Rows) [94] G .optt ⟨Ua,J⟩ (fun hc=>Gc Hm G G G) G ?_)))))))))))));refine JLo (Em i) [] G .optt J (fun hc=>G3 G G) G ?_;obtain⟨i4,d7,h⟩:=Gd h;refine JLo (I64 i4) [96] G .optt ⟨Ua,J⟩ (fun hc=>mJ (bN (Gz hc d7)) G G G) G ?_;obtain⟨a0,d8,h⟩:=Gd h;refine JLo (.GY [I64 a0]) [95,97] G .optt ⟨Ua,Ua,J⟩ (fun hc=>(match Qq (Gz hc d8) with | ⟨_,hm_,hy_⟩=>Gs (f:=I64) (xs:=c.Rows) (y:=a0) G G G Gv hy_ hm_)) G (JLo (I64 a0) [98] G .optt ⟨Ua,J⟩ (fun hc=>Gc Ga G G G) G (JLo (BL (decide (d<=a0))) [93,99] G .optt ⟨Ua,Ua,J⟩ (fun hc=>mK G G G) G (G8 (u:=BL ((decide (0 < (i:Int)))&&(decide (d<=a0)))) [(92,BL (decide (0 < (i:Int)))),(100,_)] G G G .scf ⟨.all id,.part,J⟩ (fun hc=>Jd G G G G) ?_)))
      refine JLh (BL (((decide (d < 0))||(decide (30 < d)))||((decide (0 < (i:Int)))&&(decide (d<=a0))))) (Ro G G G G) G (G6 (d6 (JCc G h (fun h hb=>?_) (fun h hb=>?_))))
      .refine Jr fun d9=>(JLm (BL false) G (G6 (d9 (Gp (⟨[BL false],[],J,G,⟨⟨_,G,.conv (.same G)⟩,J⟩,G,false,Eq.mpr (Pc h) hp,G⟩)))))
      .refine Gj (d5 (iV (l':=[(3,.mp 1073),(8,.GY [I64 c.Bay,E5 c.Rows]),(10,I64 d),(55,E9 s.Covers),(56,Em s.Covers.length),(57,Em t),(76,E5 c.Rows),(77,Em c.Rows.length),(78,Em i)]) (L':=(Ka j)) ⟨(.sm G G),⟨fmQ G,J⟩,rfl⟩ ?_));obtain⟨i5,a8,h⟩:=Gd h;obtain⟨a1,a9,h⟩:=R7 h;refine Q1 [7,9] [0,0,0,0,0,0,0,0,1,0] [0,0,0,0,0,1,1,0,1,0] [(Ka j),((1073,MI 159 Hh.kv I64 j (Hh.mk c.Bay d 2) 0)::(Ka j)),((1073,MP 159 Hh.kv I64 (Hk.put j (Hh.mk c.Bay d 2) a1))::((1073,MI 159 Hh.kv I64 j (Hh.mk c.Bay d 2) 0)::(Ka j)))] Jn zF rfl rfl ?_;refine Gb (u:=.mp 1073) G G ⟨Gr (G3 G G) G,J⟩ (Gb (u:=.GY [I64 c.Bay,E5 c.Rows]) G G ⟨Gr (G9 bA G G G) G,J⟩ (Gb (u:=I64 c.Bay) G G ⟨Gr (Gc Ga G G G) G,J⟩ (Gb (u:=I64 d) G G ⟨Gr (G3 G G) G,J⟩ (Gb (u:=.agg [I64 c.Bay,I64 d,I64 2]) G G ⟨Gr (HP (cs:=[I64 c.Bay,I64 d,I64 2]) [E0,E0,E0] G3f YM G G) G,J⟩ (Gb (u:=I64 i5) G G ⟨Gr (((Pc a8) ▸ G8c (av:=I64) (m:=j) (a:=(Hh.mk c.Bay d 2)) 0 E0 G G G G QW kL yM G)) G,Gr (((Pc a8) ▸ G8a (av:=I64) (m:=j) (a:=(Hh.mk c.Bay d 2)) 0 E0 G G G G QW kL yM G)) G,J⟩ (Gb (u:=I64 a1) G G ⟨Gr (Hw a9 G G G) G,Gr (Hw a9 G G G) G,J⟩ (D_w (u:=.tup [.AL,I64 (dS (Hk.l j) (Hh.mk c.Bay d 2):Int)]) G G G G (Gr (G07 (m:=j) (a:=(Hh.mk c.Bay d 2)) 0 E0 G G G G QW kL yM G) G) (Gb (u:=I64 (dS (Hk.l j) (Hh.mk c.Bay d 2):Int)) G G ⟨Gr (Jh G G G) G,J⟩ (Q47 (u:=.AL) G G G G (Gr (zX (m:=j) (a:=(Hh.mk c.Bay d 2)) (v:=a1) 0 G G G G G G) G) (Y2 ?_))))))))));refine d3 (G1 (JLh (I64 ((i+1:Nat):Int)) (Hw (H9 a7 i1) G G G) G (JLm (I64 ((i+1:Nat):Int)) G (G6 (i3 _ _ (i+1) (Hk.put j (Hh.mk c.Bay d 2) a1) (app1 d2 h) (by omega) ⟨(.sm G G),⟨fmQ G,J⟩,rfl⟩)))))
     .have h:=app1 c1 (Ho a6 (H8 hb));refine Ha (h5 (G1 (JLh (I64 ((t+1:Nat):Int)) (Hw (H9 c0 g8) G G G) G (JLm (I64 ((t+1:Nat):Int)) G (G6 (j9 _ _ (t+1) j (app1 h4 h) (by omega) ⟨(.sm G G),⟨fmQ G,J⟩,rfl⟩))))))
   .have h:=app1 c6 (Ho b9 (H8 hb));refine Ha (g6 (Js fun e0=>Jr fun e1=>(JLm (.mp 1073) G (JLh (.it 1074) (Jdd 1074 (m:=w) G G G G kL) G (G6 (e1 (Gi ?_)))))));obtain⟨i6,e2,e3,c2,h⟩:=Jc1 h;refine Jd2 (Hk.size w) (fun x (a2:Unit)=>MInv i6 e2 (Hk.l w) x a2) (fun x a2=>[(115,.it 1074)]) (fun x a2=>[(1073,MP 159 Hh.kv I64 w),(1074,.iter (.mp 1073) (Hk.size w) x)]) () (MInv.start h hp) ⟨⟨.same G,J⟩,⟨⟨_,G,.map⟩,⟨_,G,.iter G⟩,J⟩,G⟩ ?_;clear h hp;intro x a2 b0 k6 i7;refine Jr fun b1=>nM G G G (Q53 (m:=w) G G G G) ?_;intro u_ L_ hn_;rcases hn_ with ⟨c3,z,a3,b2,rfl,rfl⟩ | ⟨e4,rfl,rfl⟩
    .obtain⟨k7,h,b3,b4⟩:=b0.step a3 b2;replace h:=wM e3 h;refine JLh (BL true) (Jh G G G) G (G6 (b1 (Js fun e5=>Jd5 G (Gj (e5 (Gi (Jr fun e6=>(JLh (.tup [.agg (Hh.cs z.1),I64 z.2]) (Je8 (kv:=Hh.kv) (av:=I64) (m:=w) (q:=c3) (seen:=x) (e:=z) G G G G a3) G (JLh (I64 z.2) (Jh G G G) G (JLm (I64 z.2) G (G6 (e6 (Jr fun e7=>(JLm (I64 z.2) G (JLh (BL (decide (1 < z.2))) (Yi G G G) G (G6 (e7 (JCc G h (fun h hb=>?_) (fun h hb=>?_)))))))))))))))))))
     .refine Jr fun e8=>(JLm (BL false) G (G6 (e8 (Gp ?_))));obtain⟨y_,hy_,hl_⟩:=Q27 h;exact⟨[BL false],[],J,G,⟨⟨_,G,.conv (.same G)⟩,J⟩,G,false,Eq.mpr (Pc hl_) (b3 y_ hy_),G⟩
     .refine Gj (i7 _ _ (x++[c3]) () (b4 _ (Pc h).symm) (J54 (Pa a3).1 b2) ⟨⟨.same G,J⟩,⟨⟨_,G,.map⟩,⟨_,G,.iter G⟩,J⟩,G⟩)
    .obtain⟨p_,h,hp⟩:=b0.done e4;replace h:=app1 c2 h;refine JLh (BL false) (Jh G G G) G (G6 (b1 (Js fun k1=>Jd6 G (Ha (e0 (Jr fun e9=>(JLm (BL true) G (G6 (e9 (Gp (⟨[BL true],[],J,G,⟨⟨_,G,.conv (.same G)⟩,J⟩,G,true,Eq.mpr (Pc h) hp,G⟩)))))))))))
theorem G79 (S_:(Gf)->Option Bool) (hS_:∀ s r,S_ s=some r->∃ p:Prop,lW s (fun r_=>r_=r)=some p/\p) (s:Gf) (r:Bool) (h:S_ s=some r):Pure En 42 [.agg (Gf.cs s)] (·=BL r):=by
 obtain⟨p,a,b⟩:=hS_ s r h;exact(G78 s _ p a b).monoP (fun av hh=>by obtain⟨r_,rfl,ha⟩:=hh; exact ha)

def jV (size:Int):Option AE:=bif decide (size=40) then (some [0]) else (bif decide (size=20) then (some [1,2]) else (some []))
theorem G10 (size:Int) (r:AE) (h:jV size=some r):Pure En 184 [U8 size] (·=Ee r):=by
 unfold jV at h;refine Gw [.tmp 2] Tryz.func184 G G (Jr fun a=>(JLh (Ee ([]:AE)) (Qb 1 G G) G (G6 (a (Js fun b=>Jr fun c=>(JLm (U8 size) G (G6 (c (Gi (Jr fun d=>(JLh (BL (decide (size=40))) (Q7 G G G) G (JLm (BL (decide (size=40))) G (G6 (d (JCc G h (fun h hb=>?_) (fun h hb=>?_))))))))))))))))
 .refine Jr fun e=>(JLh (Ee [0]) (Hv (xs:=[U8 0]) G ⟨G,G,J⟩ oO G26 G G G G) G (JLm (Ee [0]) G (G6 (e (Gp (AF (fun r:AE=>(Ee r:AV)) h))))))
 .refine Jr fun f=>(JLh (BL (decide (size=20))) (Q7 G G G) G (JLm (BL (decide (size=20))) G (G6 (f (JCc G h (fun h hb=>?_) (fun h hb=>?_))))))
  .refine Jr fun g=>(JLh (Ee [1,2]) (Hv (xs:=[U8 1,U8 2]) G ⟨G,G,G,G,J⟩ oO G26 G G G G) G (JLm (Ee [1,2]) G (G6 (g (Gp (AF (fun r:AE=>(Ee r:AV)) h))))))
  .refine Gj (b (Jr fun i=>(JLh (Ee ([]:AE)) (Qb 1 G G) G (G6 (i (Gp (AF (fun r:AE=>(Ee r:AV)) h)))))))
end
end Go.Proofs.YtbgfgnddogfpcaaGreat
