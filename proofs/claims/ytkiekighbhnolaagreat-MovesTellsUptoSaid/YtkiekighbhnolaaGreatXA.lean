/- Walks of functions. -/
import Derived.Test.YtkiekighbhnolaaGreatSortLay
import Derived.Test.YtkiekighbhnolaaGreatApl
set_option maxRecDepth 100000
set_option maxHeartbeats 1000000
set_option linter.unusedVariables false
set_option linter.unusedSimpArgs false
namespace Go.Proofs.YtkiekighbhnolaaGreat
open Go.RowKit
noncomputable section
abbrev Ep:=Tryz.prog
structure Hy where
 n:Int
 low:Int
 high:Int
 deriving DecidableEq,Inhabited
def Hy.cs (x:Hy):AD:=[I64 x.n,I64 x.low,I64 x.high]
def Hy.av (x:Hy):AV:=.agg x.cs
structure G5 where
 Bay:Int
 Row:Int
 AO:Bool
 AP:Int
 Height:Int
 AR:Int
 AX:Int
 BC:Int
 Plugs:AE
 X:Int
 Y:Int
 Z:Int
 deriving DecidableEq,Inhabited
def G5.cs (x:G5):AD:=[I64 x.Bay,I64 x.Row,BL x.AO,I64 x.AP,I64 x.Height,I64 x.AR,I64 x.AX,I64 x.BC,E2 x.Plugs,I64 x.X,I64 x.Y,I64 x.Z]
def G5.av (x:G5):AV:=.agg x.cs
abbrev Eh (x:G5):AV:=.AA (G5.cs x)
abbrev E5:=LS 12 G5.av
structure Gv where
 Bay:Int
 Rows:AE
 deriving DecidableEq,Inhabited
def Gv.cs (x:Gv):AD:=[I64 x.Bay,E2 x.Rows]
def Gv.av (x:Gv):AV:=.agg x.cs
abbrev E6:=LS 2 Gv.av
structure Light where
 AU:Int
 X:Int
 Y:Int
 Z:Int
 deriving DecidableEq,Inhabited
def Light.cs (x:Light):AD:=[I64 x.AU,I64 x.X,I64 x.Y,I64 x.Z]
structure Row where
 Draught:Int
 AU:Int
 Buoy:Int
 BP:Int
 G18:Int
 deriving DecidableEq,Inhabited
def Row.cs (x:Row):AD:=[I64 x.Draught,I64 x.AU,I64 x.Buoy,I64 x.BP,I64 x.G18]
def Row.av (x:Row):AV:=.agg x.cs
abbrev Ec:=LS 5 Row.av
structure Frame where
 X:Int
 Light:Int
 Share:Int
 Shear:Int
 Bend:Int
 deriving DecidableEq,Inhabited
def Frame.cs (x:Frame):AD:=[I64 x.X,I64 x.Light,I64 x.Share,I64 x.Shear,I64 x.Bend]
def Frame.av (x:Frame):AV:=.agg x.cs
abbrev Eb:=LS 5 Frame.av
structure Hz where
 AU:Int
 X:Int
 Y:Int
 Z:Int
 AY:Int
 Steps:AE
 deriving DecidableEq,Inhabited
def Hz.cs (x:Hz):AD:=[I64 x.AU,I64 x.X,I64 x.Y,I64 x.Z,I64 x.AY,E2 x.Steps]
def Hz.av (x:Hz):AV:=.agg x.cs
abbrev Ea:=LS 6 Hz.av
structure Gj where
 AZ:Int
 Trim:Int
 BQ:Int
 BA:Int
 deriving DecidableEq,Inhabited
def Gj.cs (x:Gj):AD:=[I64 x.AZ,I64 x.Trim,I64 x.BQ,I64 x.BA]
structure Ge where
 Columns:List G5
 Covers:List Gv
 Light:Light
 Rows:List Row
 Frames:List Frame
 Tanks:List Hz
 Gj:Gj
 deriving DecidableEq,Inhabited
def Ge.cs (x:Ge):AD:=[E5 x.Columns,E6 x.Covers,I64 x.Light.AU,I64 x.Light.X,I64 x.Light.Y,I64 x.Light.Z,Ec x.Rows,Eb x.Frames,Ea x.Tanks,I64 x.Gj.AZ,I64 x.Gj.Trim,I64 x.Gj.BQ,I64 x.Gj.BA]
abbrev Ef (x:Ge):AV:=.AA (Ge.cs x)
structure Ho where
 e0:Int
 e1:Int
 e2:Int
 deriving DecidableEq,Inhabited
def Ho.cs (x:Ho):AD:=[I64 x.e0,I64 x.e1,I64 x.e2]
def Ho.ks (x:Ho):AM:=[.int .i64 x.e0,.int .i64 x.e1,.int .i64 x.e2]
def Ho.kv (x:Ho):Value:=.agg x.ks.toArray
namespace XAF
theorem Qe8 (a b:Ho):rG Ep 4 197 [.int .i64 a.e0,.int .i64 a.e1,.int .i64 a.e2] [.int .i64 b.e0,.int .i64 b.e1,.int .i64 b.e2]=some (decide (a=b)):=by
 refine(show _=some ((a.e0==b.e0)&&((a.e1==b.e1)&&((a.e2==b.e2)&&true))) by kernel_rfl).trans (congrArg some ?_);rw [Bool.eq_iff_iff];simp only [S8,beq_iff_eq,S9,Bool.and_true];constructor
 .intro h; obtain⟨_,_,_⟩:=a; obtain⟨_,_,_⟩:=b; simp_all
 .intro h; subst h; simp
theorem J8d:jQ Ep 263 3=true:=zR
theorem Zm:jQ Ep 59 12=true:=zR
theorem cO:jQ Ep 61 2=true:=zR
theorem Gca:Qb5 Ep 197 3 1=true:=zR
theorem Hec:Gz Ep 118=true:=zR
theorem G5c:Gz Ep 178=true:=zR
theorem HF:Jf Ep 263 0 0=true:=zR
theorem Gb3:Jf Ep 263 1 1=true:=zR
theorem Gb2:Jf Ep 263 2 2=true:=zR
theorem Hg:Jf Ep 32 0 0=true:=zR
theorem Q1:Jf Ep 32 1 1=true:=zR
theorem Y3:Jf Ep 59 0 0=true:=zR
theorem cU:Jf Ep 59 1 1=true:=zR
theorem oH:Jf Ep 59 10 10=true:=zR
theorem oG:Jf Ep 59 11 11=true:=zR
theorem Yn:Jf Ep 59 2 2=true:=zR
theorem cT:Jf Ep 59 3 3=true:=zR
theorem eL:Jf Ep 59 4 4=true:=zR
theorem qG:Jf Ep 59 5 5=true:=zR
theorem qF:Jf Ep 59 6 6=true:=zR
theorem qE:Jf Ep 59 7 7=true:=zR
theorem Y2:Jf Ep 59 8 8=true:=zR
theorem qD:Jf Ep 59 9 9=true:=zR
theorem Ym:Jf Ep 61 0 0=true:=zR
theorem Qp:Jf Ep 61 1 1=true:=zR
theorem mO:gW Ep 196 197 3=true:=zR
theorem J4:Ep.follows .mixedOrders=true:=zR
theorem Zr:placesOf Ep 263=some [(0,1),(1,1),(2,1)]:=zR
theorem Hr:Jg Ep 22=true:=zR
theorem Qb:Jg Ep 23=true:=zR
theorem Ga:Jg Ep 3=true:=zR
theorem R1:Jg Ep 4=true:=zR
theorem J1:Jg Ep 57=true:=zR
theorem Ha7:Rh Ep 263 3=true:=zR
theorem jU:Rh Ep 59 12=true:=zR
theorem mN:Rh Ep 61 2=true:=zR
theorem Hj:sliceB Ep 22 59 12=true:=zR
theorem sA:sliceB Ep 227 5 1=true:=zR
theorem Jj:sliceB Ep 23 61 2=true:=zR
theorem rY:sliceB Ep 261 263 3=true:=zR
theorem H5:sliceB Ep 57 3 1=true:=zR
theorem G51:(Ep.info? 197).bind (fun i=>i.zero.map Value.cells)=some (List.toArray [E0,E0,E0]):=zR
theorem dG:(Ep.info? 263).bind (fun i=>i.zero.map Value.cells)=some (List.toArray [E0,E0,E0]):=zR
theorem yY:Rr Ep 263 3=true:=zR
theorem Gae:Rr Ep 5 1=true:=zR
theorem fN:Rr Ep 59 12=true:=zR
theorem iD:Rr Ep 61 2=true:=zR
theorem QL:(Ep.info? 3).bind (·.zero)=some E0:=zR
theorem G26:sV Ep 197 Ho.kv:=sV.of_eq Ho.ks zR (fun a b h=>by simp only [Ho.ks,List.cons.injEq,Value.int.injEq,Value.bool.injEq,Value.string.injEq,true_and,and_true] at h; obtain⟨_,_,_⟩:=a; obtain⟨_,_,_⟩:=b; simp_all) 4 (by decide) (fun a b=>Qe8 a b) (fun a=>by kernel_rfl) (fun a=>by simp [Instr.sameBits,Ho.ks])
end XAF
open XAF

def hP (l:List Hy):Option Bool:=each (fun a d (c:Unit) b=>bif ((decide (a.n < a.low))||(decide (a.high < a.n))) then (some false) else (b ())) (fun(c:Unit)=>some true) l 0 ()
theorem yO (l:List Hy) (r:Bool) (h:hP l=some r):Pure Ep 178 [LS 3 Hy.av l] (·=BL r):=by
 unfold hP at h;refine Gy [.tmp 2] Tryz.func178 G G (Jr fun x=>(JLm (BL false) G (G6 (x (Js fun z=>Jr fun a0=>(JLm (LS 3 Hy.av l) G (JLl rY G G G fun a1=>(JLm (I64 0) G (G6 (a0 (Gf ?_)))))))))));obtain⟨a2,i,j,g,h⟩:=J6 h;refine zAC h (fun b c=>[(5,LS 3 Hy.av l),(6,Eo l.length),(7,Eo b)]) (fun b c=>[]) ⟨(.sm G G),U,G⟩ ?_;clear h;intro b c d a5 a3;refine Jr fun k=>(JLh (BL (decide ((b:Int) < (l.length:Int)))) (Hs G G G) G (G6 (k (Js fun m=>Gh G (fun hb=>?_) (fun hb=>?_)))))
 .have e:=Jp hb;obtain⟨a,a4,o,p,h⟩:=Hu d e;replace h:=Yg j h;refine Gk (m (Js fun q=>Gf (Jr fun s=>(JLh (.AA [I64 a.n,I64 a.low,I64 a.high]) (Gs (f:=Hy.av) (xs:=l) (y:=a) G G G rY o G) G (JLh (.agg [I64 a.n,I64 a.low,I64 a.high]) (Gi J8d G G G) G (JLh (.ptr 1198 0) (Jo 1198 3 yY G G) G (J3 (u:=.AJ) (Hm (u:=.agg [I64 a.n,I64 a.low,I64 a.high]) (ds:=[I64 a.n,I64 a.low,I64 a.high]) Ha7 G G G G G G G G) (G6 (s (fzQ [(4,.AA [I64 a.n,I64 a.low,I64 a.high]),(5,LS 3 Hy.av l),(6,Eo l.length),(7,Eo b)] [] 1198 rfl rfl rfl U rfl ?_))))))))));refine Jr fun t=>(JLh (.AA [I64 a.n,I64 a.low,I64 a.high]) (G8 HF G G G) G (JLh (I64 a.n) (Gb Ga G G G) G (JLh (.AA [I64 a.low,I64 a.high]) (G8 Gb3 G G G) G (JLh (I64 a.low) (Gb Ga G G G) G (JLh (BL (decide (a.n < a.low))) (Hs G G G) G (JLm (BL (decide (a.n < a.low))) G (JLo (.AA [I64 a.n,I64 a.low,I64 a.high]) [] G .scf U (fun hc=>G8 HF G G G) G (JLo (I64 a.n) [17] G .scf ⟨Ua,U⟩ (fun hc=>Gb Ga G G G) G (JLo (.AA [I64 a.high]) [] G .scf U (fun hc=>G8 Gb2 G G G) G (JLo (I64 a.high) [19] G .scf ⟨Ua,U⟩ (fun hc=>Gb Ga G G G) G (JLo (BL (decide (a.high < a.n))) [18,20] G .scf ⟨Ua,Ua,U⟩ (fun hc=>aB G G G) G (JLh (BL ((decide (a.n < a.low))||(decide (a.high < a.n)))) (Rq G G G G) G (G6 (t ?_))))))))))))));refine JCc G h ?_ ?_<;>intro h hb
  .refine Jr fun v=>(JLm (BL false) G (G6 (v (Gr (AL BL h)))))
  .refine Gk (q (G1 (JLh (I64 ((b+1:Nat):Int)) (Hx (Hc e a1) G G G) G (JLm (I64 ((b+1:Nat):Int)) G (G6 (a3 _ _ (b+1) () (app1 p h) (by omega) ⟨(.sm G G),U,rfl⟩))))))
 .have h:=app1 g (Hv d (Ha hb));refine H9 (z (Jr fun w=>(JLm (BL true) G (G6 (w (Gr (AL BL h)))))))

def kW (c:G5):Option Bool:=each (fun d a (f:Unit) e=>wrp (c.AP - 1) fun g=>bnd (hP [(Hy.mk d 0 g)]) fun b=>bnd (bif ((!(!b))&&(decide (0 < (a:Int)))) then some (IntKind.i64.wrap ((a:Int) - 1)) else some 0) fun h=>bnd (bif ((!(!b))&&(decide (0 < (a:Int)))) then Jk c.Plugs h some else some default) fun i=>bif ((!b)||((decide (0 < (a:Int)))&&(decide (d<=i)))) then (some false) else (e ())) (fun(f:Unit)=>bnd (hP [(Hy.mk c.Bay 0 39),(Hy.mk c.Row 0 30),(Hy.mk c.AP 1 10),(Hy.mk c.Height 0 40000),(Hy.mk c.AR 0 500000000),(Hy.mk c.AX 0 500000000),(Hy.mk c.BC 0 1000000000000),(Hy.mk c.X (-500000) 500000),(Hy.mk c.Y (-500000) 500000),(Hy.mk c.Z (-500000) 500000)]) fun j=>some j) c.Plugs 0 ()
abbrev Er (c:G5):List Hy:=[(Hy.mk c.Bay 0 39),(Hy.mk c.Row 0 30),(Hy.mk c.AP 1 10),(Hy.mk c.Height 0 40000),(Hy.mk c.AR 0 500000000),(Hy.mk c.AX 0 500000000),(Hy.mk c.BC 0 1000000000000),(Hy.mk c.X (-500000) 500000),(Hy.mk c.Y (-500000) 500000),(Hy.mk c.Z (-500000) 500000)]
abbrev Es (c:G5):AD:=[I64 c.AP,I64 c.Height,I64 c.AR,I64 c.AX,I64 c.BC,E2 c.Plugs,I64 c.X,I64 c.Y,I64 c.Z]
abbrev Eu (c:G5):AD:=[I64 c.BC,I64 0,I64 1000000000000]
abbrev Ev (c:G5):AD:=[I64 c.AR,I64 0,I64 500000000]
abbrev Ew (c:G5):AD:=[I64 c.AX,I64 0,I64 500000000]
abbrev Ex (c:G5):AD:=[I64 c.Y,I64 (-500000),I64 500000]
abbrev Ey (c:G5):AD:=[I64 c.Z,I64 (-500000),I64 500000]
abbrev Ez (c:G5):AD:=[I64 c.X,I64 (-500000),I64 500000]
abbrev K0 (c:G5):AD:=[I64 c.Height,I64 0,I64 40000]
theorem Gfb (c:G5) (r:Bool) (h:kW c=some r):Pure Ep 118 [.agg (G5.cs c)] (·=BL r):=by
 unfold kW at h;refine Gy [.tmp 2] Tryz.func118 G G (Jr fun a7=>(JLh (.ptr 1135 0) (Jh (cs:=(G5.cs c)) 1135 G G G G G) G (JLm (BL false) G (G6 (a7 (Gu [(1,Eh c)] [] 1135 rfl rfl rfl U rfl (by exact⟨.ptr,U⟩) (Jr fun a8=>(JLm (.fn 178 []) G (G6 (a8 (Js fun a9=>Jr fun b0=>(JLh (.AA [E2 c.Plugs,I64 c.X,I64 c.Y,I64 c.Z]) (G8 Y2 G G G) G (JLh (E2 c.Plugs) (Gb J1 G G G) G (JLl H5 G G G fun b1=>(JLm (I64 0) G (G6 (b0 (Gf ?_))))))))))))))))));obtain⟨b2,o,p,n,h⟩:=J6 h;refine zAC h (fun a j=>[(1,Eh c),(3,.fn 178 []),(7,E2 c.Plugs),(8,Eo c.Plugs.length),(9,Eo a)]) (fun a j=>[]) ⟨(.sm G G),U,rfl⟩ ?_;clear h;intro a j k b6 b3;refine Jr fun q=>(JLh (BL (decide ((a:Int) < (c.Plugs.length:Int)))) (Hs G G G) G (G6 (q (Js fun s=>Gh G (fun hb=>?_) (fun hb=>?_)))))
 .have l:=Jp hb;obtain⟨d,b5,t,v,h⟩:=Hu k l;replace h:=Yg p h;refine Gk (s (Js fun w=>Gf (Jr fun x=>(JLm (Eo a) G (JLh (.AA [I64 d]) (Gs (f:=I64) (xs:=c.Plugs) (y:=d) G G G H5 t G) G (JLh (I64 d) (Gb Ga G G G) G (JLm (Eo a) G (JLm (I64 d) G (G6 (x (Jr fun z=>(JLm (.fn 178 []) G (JLm (I64 d) G (JLh (.AA (Es c)) (G8 cT G G G) G (JLh (I64 c.AP) (Gb Ga G G G) G ?_)))))))))))))));obtain⟨e,a0,h⟩:=Q84 h;refine JLh (I64 e) (kL a0 G G G) G (JLh (.agg [I64 d,I64 0,I64 e]) (Jb (cs:=[I64 d,I64 0,I64 e]) [(0,1),(1,1),(2,1)] [I64 0,I64 0,I64 0] [E0,E0,E0] Zr dG (zzQ G) G G) G (JLh (LS 3 Hy.av [(Hy.mk d 0 e)]) (Hf (xs:=[.agg [I64 d,I64 0,I64 e]]) G ⟨G,G,U⟩ rY yY G G G G) G ?_));obtain⟨g,a1,h⟩:=Gd h;refine JLh (BL g) (iT (args:=[LS 3 Hy.av [(Hy.mk d 0 e)]]) (BM:=[]) G G (yO [(Hy.mk d 0 e)] g a1) G5c ⟨G,G,U⟩ G) G (JLh (BL (!g)) (Y5 (b:=g) G G) G (JLm (BL (!g)) G (JLo (Eo a) [] G .scf U (fun hc=>G3 G G) G (JLo (BL (decide (0 < (a:Int)))) [24] G .scf ⟨Ua,U⟩ (fun hc=>aB G G G) G (JLo (BL (decide (0 < (a:Int)))) [25] G .scf ⟨Ua,U⟩ (fun hc=>G3 G G) G (JLo (I64 d) [] G .optt U (fun hc=>G3 G G) G (JLo (.AA [E2 c.Plugs,I64 c.X,I64 c.Y,I64 c.Z]) [] G .optt U (fun hc=>G8 Y2 G G G) G (JLo (E2 c.Plugs) [28] G .optt ⟨Ua,U⟩ (fun hc=>Gb J1 G G G) G (JLo (Eo a) [] G .optt U (fun hc=>G3 G G) G ?_)))))))));obtain⟨b4,a2,h⟩:=Gd h;refine JLo (I64 b4) [30] G .optt ⟨Ua,U⟩ (fun hc=>kL (Pw (Gw hc a2)) G G G) G ?_;obtain⟨i,a3,h⟩:=Gd h;refine JLo (.AA [I64 i]) [29,31] G .optt ⟨Ua,Ua,U⟩ (fun hc=>(match Qc (Gw hc a3) with | ⟨_,hm_,hy_⟩=>Gs (f:=I64) (xs:=c.Plugs) (y:=i) G G G H5 hy_ hm_)) G (JLo (I64 i) [32] G .optt ⟨Ua,U⟩ (fun hc=>Gb Ga G G G) G (JLo (BL (decide (d<=i))) [27,33] G .optt ⟨Ua,Ua,U⟩ (fun hc=>pF G G G) G (G9 (u:=BL ((decide (0 < (a:Int)))&&(decide (d<=i)))) [(26,BL (decide (0 < (a:Int)))),(34,_)] G G G .scf ⟨.all id,.part,U⟩ (fun hc=>Ja G G G G) ?_)))
  refine JLh (BL ((!g)||((decide (0 < (a:Int)))&&(decide (d<=i))))) (Rq G G G G) G (G6 (z (JCc G h (fun h hb=>?_) (fun h hb=>?_))))
  .refine Jr fun a4=>(JLm (BL false) G (G6 (a4 (Gr (AL BL h)))))
  .refine Gk (w (G1 (JLh (I64 ((a+1:Nat):Int)) (Hx (Hc l b1) G G G) G (JLm (I64 ((a+1:Nat):Int)) G (G6 (b3 _ _ (a+1) () (app1 v h) (by omega) ⟨(.sm G G),U,rfl⟩))))))
 .have h:=app1 n (Hv k (Ha hb));refine H9 (a9 ?_);refine Jr fun a5=>(JLm (.fn 178 []) G (JLh (Eh c) (G8 Y3 G G G) G (JLh (I64 c.Bay) (Gb Ga G G G) G (JLh (.agg [I64 c.Bay,I64 0,I64 39]) (Jb (cs:=[I64 c.Bay,I64 0,I64 39]) [(0,1),(1,1),(2,1)] [I64 0,I64 0,I64 0] [E0,E0,E0] Zr dG (zzQ G) G G) G (JLh (.AA [I64 c.Row,BL c.AO,I64 c.AP,I64 c.Height,I64 c.AR,I64 c.AX,I64 c.BC,E2 c.Plugs,I64 c.X,I64 c.Y,I64 c.Z]) (G8 cU G G G) G (JLh (I64 c.Row) (Gb Ga G G G) G (JLh (.agg [I64 c.Row,I64 0,I64 30]) (Jb (cs:=[I64 c.Row,I64 0,I64 30]) [(0,1),(1,1),(2,1)] [I64 0,I64 0,I64 0] [E0,E0,E0] Zr dG (zzQ G) G G) G (JLh (.AA (Es c)) (G8 cT G G G) G (JLh (I64 c.AP) (Gb Ga G G G) G (JLh (.agg [I64 c.AP,I64 1,I64 10]) (Jb (cs:=[I64 c.AP,I64 1,I64 10]) [(0,1),(1,1),(2,1)] [I64 0,I64 0,I64 0] [E0,E0,E0] Zr dG (zzQ G) G G) G (JLh (.AA [I64 c.Height,I64 c.AR,I64 c.AX,I64 c.BC,E2 c.Plugs,I64 c.X,I64 c.Y,I64 c.Z]) (G8 eL G G G) G (JLh (I64 c.Height) (Gb Ga G G G) G (JLh (.agg (K0 c)) (Jb (cs:=(K0 c)) [(0,1),(1,1),(2,1)] [I64 0,I64 0,I64 0] [E0,E0,E0] Zr dG (zzQ G) G G) G ?_)))))))))))));refine JLh (.AA [I64 c.AR,I64 c.AX,I64 c.BC,E2 c.Plugs,I64 c.X,I64 c.Y,I64 c.Z]) (G8 qG G G G) G (JLh (I64 c.AR) (Gb Ga G G G) G (JLh (.agg (Ev c)) (Jb (cs:=(Ev c)) [(0,1),(1,1),(2,1)] [I64 0,I64 0,I64 0] [E0,E0,E0] Zr dG (zzQ G) G G) G (JLh (.AA [I64 c.AX,I64 c.BC,E2 c.Plugs,I64 c.X,I64 c.Y,I64 c.Z]) (G8 qF G G G) G (JLh (I64 c.AX) (Gb Ga G G G) G (JLh (.agg (Ew c)) (Jb (cs:=(Ew c)) [(0,1),(1,1),(2,1)] [I64 0,I64 0,I64 0] [E0,E0,E0] Zr dG (zzQ G) G G) G (JLh (.AA [I64 c.BC,E2 c.Plugs,I64 c.X,I64 c.Y,I64 c.Z]) (G8 qE G G G) G (JLh (I64 c.BC) (Gb Ga G G G) G (JLh (.agg (Eu c)) (Jb (cs:=(Eu c)) [(0,1),(1,1),(2,1)] [I64 0,I64 0,I64 0] [E0,E0,E0] Zr dG (zzQ G) G G) G (JLh (.AA [I64 c.X,I64 c.Y,I64 c.Z]) (G8 qD G G G) G (JLh (I64 c.X) (Gb Ga G G G) G (JLh (.agg (Ez c)) (Jb (cs:=(Ez c)) [(0,1),(1,1),(2,1)] [I64 0,I64 0,I64 0] [E0,E0,E0] Zr dG (zzQ G) G G) G (JLh (.AA [I64 c.Y,I64 c.Z]) (G8 oH G G G) G (JLh (I64 c.Y) (Gb Ga G G G) G ?_)))))))))))));refine JLh (.agg (Ex c)) (Jb (cs:=(Ex c)) [(0,1),(1,1),(2,1)] [I64 0,I64 0,I64 0] [E0,E0,E0] Zr dG (zzQ G) G G) G (JLh (.AA [I64 c.Z]) (G8 oG G G G) G (JLh (I64 c.Z) (Gb Ga G G G) G (JLh (.agg (Ey c)) (Jb (cs:=(Ey c)) [(0,1),(1,1),(2,1)] [I64 0,I64 0,I64 0] [E0,E0,E0] Zr dG (zzQ G) G G) G (JLh (LS 3 Hy.av (Er c)) (Hf (xs:=[.agg [I64 c.Bay,I64 0,I64 39],.agg [I64 c.Row,I64 0,I64 30],.agg [I64 c.AP,I64 1,I64 10],.agg (K0 c),.agg (Ev c),.agg (Ew c),.agg (Eu c),.agg (Ez c),.agg (Ex c),.agg (Ey c)]) G ⟨G,G,G,G,G,G,G,G,G,G,G,G,G,G,G,G,G,G,G,G,U⟩ rY yY G G G G) G ?_))));obtain⟨m,a6,h⟩:=Gd h;refine JLh (BL m) (iT (args:=[LS 3 Hy.av (Er c)]) (BM:=[]) G G (yO (Er c) m a6) G5c ⟨G,G,U⟩ G) G (JLm (BL m) G (G6 (a5 (Gr (AL BL h)))))

def oT (s:Ge) (Rp:Bool->Prop):Option Prop:=bif (((decide ((s.Columns.length:Int) < 1))||(decide (200 < (s.Columns.length:Int))))||(decide (40 < (s.Covers.length:Int)))) then (some (Rp false)) else (each (fun c y (f:(Ht Ho Int)) m=>jp (fun g=>bif c.AO then (g 1) else (g 0)) fun(k:Int)=>bnd (some (Ht.get f (Ho.mk c.Bay c.Row k) 0)) fun v=>chk (v+1) fun w=>bnd (kW c) fun x=>bif (!x) then (some (Rp false)) else (m (Ht.put f (Ho.mk c.Bay c.Row k) w))) (fun(f:(Ht Ho Int))=>each (fun b z (h:(Ht Ho Int)) n=>bif (((decide (b.Bay < 0))||(decide (40<=b.Bay)))||(decide ((b.Rows.length:Int)=0))) then (some (Rp false)) else (each (fun a d (e:(Ht Ho Int)) i=>bnd (bif ((!((decide (a < 0))||(decide (30 < a))))&&(decide (0 < (d:Int)))) then chk ((d:Int) - 1) some else some 0) fun o=>bnd (bif ((!((decide (a < 0))||(decide (30 < a))))&&(decide (0 < (d:Int)))) then Jk b.Rows o some else some default) fun p=>bif (((decide (a < 0))||(decide (30 < a)))||((decide (0 < (d:Int)))&&(decide (a<=p)))) then (some (Rp false)) else (bnd (some (Ht.get e (Ho.mk b.Bay a 2) 0)) fun q=>chk (q+1) fun r=>i (Ht.put e (Ho.mk b.Bay a 2) r))) (fun(e:(Ht Ho Int))=>n e) b.Rows 0 h)) (fun(h:(Ht Ho Int))=>H5d (fun(t:Ho×Int) (u:Unit) j=>bif decide (1 < t.2) then (lft (some (Rp false))) else (j ())) (fun(u:Unit)=>some (Rp true)) (Ht.l h) ()) s.Covers 0 f) s.Columns 0 (Ht.empty:Ht Ho Int))
def sW (s:Ge):Option Bool:=bif (((decide ((s.Columns.length:Int) < 1))||(decide (200 < (s.Columns.length:Int))))||(decide (40 < (s.Covers.length:Int)))) then (some (id false)) else (each (fun c y (f:(Ht Ho Int)) m=>jp (fun g=>bif c.AO then (g 1) else (g 0)) fun(k:Int)=>bnd (some (Ht.get f (Ho.mk c.Bay c.Row k) 0)) fun v=>chk (v+1) fun w=>bnd (kW c) fun x=>bif (!x) then (some (id false)) else (m (Ht.put f (Ho.mk c.Bay c.Row k) w))) (fun(f:(Ht Ho Int))=>each (fun b z (h:(Ht Ho Int)) n=>bif (((decide (b.Bay < 0))||(decide (40<=b.Bay)))||(decide ((b.Rows.length:Int)=0))) then (some (id false)) else (each (fun a d (e:(Ht Ho Int)) i=>bnd (bif ((!((decide (a < 0))||(decide (30 < a))))&&(decide (0 < (d:Int)))) then chk ((d:Int) - 1) some else some 0) fun o=>bnd (bif ((!((decide (a < 0))||(decide (30 < a))))&&(decide (0 < (d:Int)))) then Jk b.Rows o some else some default) fun p=>bif (((decide (a < 0))||(decide (30 < a)))||((decide (0 < (d:Int)))&&(decide (a<=p)))) then (some (id false)) else (bnd (some (Ht.get e (Ho.mk b.Bay a 2) 0)) fun q=>chk (q+1) fun r=>i (Ht.put e (Ho.mk b.Bay a 2) r))) (fun(e:(Ht Ho Int))=>n e) b.Rows 0 h)) (fun(h:(Ht Ho Int))=>G01 (fun(t:Ho×Int) (u:Unit) j=>bif decide (1 < t.2) then (lft (some (id false))) else (j ())) (fun(u:Unit)=>some (id true)) (Ht.l h) ()) s.Covers 0 f) s.Columns 0 (Ht.empty:Ht Ho Int))
abbrev Ka (s:Ge):AD:=[E6 s.Covers,I64 s.Light.AU,I64 s.Light.X,I64 s.Light.Y,I64 s.Light.Z,Ec s.Rows,Eb s.Frames,Ea s.Tanks,I64 s.Gj.AZ,I64 s.Gj.Trim,I64 s.Gj.BQ,I64 s.Gj.BA]
abbrev Kb (s:Ge):Bool:=((decide ((s.Columns.length:Int) < 1))||(decide (200 < (s.Columns.length:Int))))
abbrev Kc (a:(Ht Ho Int)):Loc:=[(1068,MP 196 Ho.kv I64 a)]
theorem Gfc (s:Ge) (Rp:Bool->Prop) (p:Prop) (h:oT s Rp=some p) (hp:p):Pure Ep 46 [.agg (Ge.cs s)] (fun av=>∃ r,Rp r/\av=BL r):=by
 unfold oT at h;refine Gy [.tmp 2] Tryz.func46 G G (Jr fun i8=>(JLh (.ptr 1065 0) (Jh (cs:=(Ge.cs s)) 1065 G G G G G) G (JLm (BL false) G (G6 (i8 (Gu [(1,Ef s)] [] 1065 rfl rfl rfl U rfl (by exact⟨.ptr,U⟩) (Js fun i9=>?_)))))));refine Jr fun j0=>(JLh (Ef s) (G8 Hg G G G) G (JLh (E5 s.Columns) (Gb Hr G G G) G (JLl Hj G G G fun k2=>(JLh (BL (decide ((s.Columns.length:Int) < 1))) (Hs G G G) G (JLm (BL (decide ((s.Columns.length:Int) < 1))) G (JLo (Ef s) [] G .scf U (fun hc=>G8 Hg G G G) G (JLo (E5 s.Columns) [18] G .scf ⟨Ua,U⟩ (fun hc=>Gb Hr G G G) G (JLo (Eo s.Columns.length) [19] G .scf ⟨Ua,U⟩ (fun hc=>Yj (f:=G5.av) (xs:=s.Columns) Hj G G) G (JLo (BL (decide (200 < (s.Columns.length:Int)))) [20] G .scf ⟨Ua,U⟩ (fun hc=>aB G G G) G (JLh (BL (Kb s)) (Rq G G G G) G (JLm (BL (Kb s)) G (JLo (.AA (Ka s)) [] G .scf U (fun hc=>G8 Q1 G G G) G (JLo (E6 s.Covers) [24] G .scf ⟨Ua,U⟩ (fun hc=>Gb Qb G G G) G ?_)))))))))))));refine JLo (Eo s.Covers.length) [25] G .scf ⟨Ua,U⟩ (fun hc=>Yj (f:=Gv.av) (xs:=s.Covers) Jj G G) G (JLo (BL (decide (40 < (s.Covers.length:Int)))) [26] G .scf ⟨Ua,U⟩ (fun hc=>aB G G G) G (JLh (BL ((Kb s)||(decide (40 < (s.Covers.length:Int))))) (Rq G G G G) G (G6 (j0 (JCc G h (fun h hb=>?_) (fun h hb=>?_))))))
 .refine Jr fun j1=>(JLm (BL false) G (G6 (j1 (Gr (⟨[BL false],[],U,G,⟨⟨_,G,.conv (.same G)⟩,U⟩,G,false,Eq.mpr (Pw h) hp,G⟩)))))
 .refine Gk (i9 (Jr fun j2=>(JLh (.mp 1068) (ZI 1068 Ho.kv I64 G G) G (JLm (.mp 1068) G (G6 (j2 (Js fun j3=>Jr fun j4=>(JLh (Ef s) (G8 Hg G G G) G (JLh (E5 s.Columns) (Gb Hr G G G) G (JLl Hj G G G fun f0=>(JLm (I64 0) G (G6 (j4 (Gf ?_))))))))))))));obtain⟨j5,f1,f2,c4,h⟩:=J6 h;refine zAC h (fun o k=>[(1,Ef s),(3,.mp 1068),(31,E5 s.Columns),(32,Eo s.Columns.length),(33,Eo o)]) (fun o k=>(Kc k)) ⟨(.sm G G),⟨fmQ G,U⟩,rfl⟩ ?_;clear h;intro o k b5 k8 j6;refine Jr fun f3=>(JLh (BL (decide ((o:Int) < (s.Columns.length:Int)))) (Hs G G G) G (G6 (f3 (Js fun f4=>Gh G (fun hb=>?_) (fun hb=>?_)))))
  .have b6:=Jp hb;obtain⟨g,k3,f5,f6,h⟩:=Hu b5 b6;replace h:=Yg f2 h;refine Gk (f4 (Js fun f7=>Gf (Jr fun f8=>(JLh (Eh g) (Gs (f:=G5.av) (xs:=s.Columns) (y:=g) G G G Hj f5 G) G (JLh (.agg (G5.cs g)) (Gi Zm G G G) G (JLh (.ptr 1066 0) (Jo 1066 12 fN G G) G (J3 (u:=.AJ) (Hm (u:=.agg (G5.cs g)) (ds:=(G5.cs g)) jU G G G G G G G G) (G6 (f8 ?_)))))))));refine fzQ [(1,Ef s),(3,.mp 1068),(5,Eh g),(31,E5 s.Columns),(32,Eo s.Columns.length),(33,Eo o)] (Kc k) 1066 rfl rfl rfl ⟨fmQ G,U⟩ rfl (Jr fun f9=>(JLm (I64 0) G (G6 (f9 ?_))));obtain⟨g0,c5,h⟩:=Yx h;refine Qr (fun n:Int=>g0 n=some p) (fun n=>[(1,Ef s),(3,.mp 1068),(5,Eh g),(6,I64 n),(31,E5 s.Columns),(32,Eo s.Columns.length),(33,Eo o)]) (fun n=>(Kc k)) (fun Kj74 ej74=>?_) ?_
   .refine Jr fun g1=>(JLh (.AA ((G5.cs g).drop 2)) (G8 Yn G G G) G (JLh (BL g.AO) (Gb R1 G G G) G (G6 (g1 (JCc G h (fun h hb=>?_) (fun h hb=>?_))))))
    .refine G1 (JLm (I64 1) G (G6 (ej74 _ _ 1 h ⟨(.sm G G),⟨fmQ G,U⟩,rfl⟩)))
    .refine Gk (ej74 _ _ 0 h ⟨(.sm G G),⟨fmQ G,U⟩,rfl⟩)
   .intro n h;replace h:=app1 c5 h;refine Js fun g2=>gQ (l':=[(1,Ef s),(3,.mp 1068),(5,Eh g),(6,I64 n),(31,E5 s.Columns),(32,Eo s.Columns.length),(33,Eo o)]) (L':=(Kc k)) ⟨(.sm G G),⟨fmQ G,U⟩,rfl⟩ ?_;obtain⟨j7,b7,h⟩:=Gd h;obtain⟨a4,b8,h⟩:=Q7 h;refine Q6 [9,11] [0,0,0,0,0,0,0,0,0,0,1,0] [0,0,0,0,0,0,0,1,1,0,1,0] [(Kc k),((1068,MI 196 Ho.kv I64 k (Ho.mk g.Bay g.Row n) 0)::(Kc k)),((1068,MP 196 Ho.kv I64 (Ht.put k (Ho.mk g.Bay g.Row n) a4))::((1068,MI 196 Ho.kv I64 k (Ho.mk g.Bay g.Row n) 0)::(Kc k)))] J4 zR rfl rfl ?_;refine Gc (u:=.mp 1068) G G ⟨Gq (G3 G G) G,U⟩ (Gc (u:=Eh g) G G ⟨Gq (G8 Y3 G G G) G,U⟩ (Gc (u:=I64 g.Bay) G G ⟨Gq (Gb Ga G G G) G,U⟩ (Gc (u:=.AA ((G5.cs g).drop 1)) G G ⟨Gq (G8 cU G G G) G,U⟩ (Gc (u:=I64 g.Row) G G ⟨Gq (Gb Ga G G G) G,U⟩ (Gc (u:=I64 n) G G ⟨Gq (G3 G G) G,U⟩ (Gc (u:=.agg [I64 g.Bay,I64 g.Row,I64 n]) G G ⟨Gq (ZJ (cs:=[I64 g.Bay,I64 g.Row,I64 n]) [E0,E0,E0] Gca G51 G G) G,U⟩ (Gc (u:=I64 j7) G G ⟨Gq (((Pw b7) ▸ vF (av:=I64) (m:=k) (a:=(Ho.mk g.Bay g.Row n)) 0 E0 G G G G G26 mO QL G)) G,Gq (((Pw b7) ▸ H11 (av:=I64) (m:=k) (a:=(Ho.mk g.Bay g.Row n)) 0 E0 G G G G G26 mO QL G)) G,U⟩ (Gc (u:=I64 a4) G G ⟨Gq (Hx b8 G G G) G,Gq (Hx b8 G G G) G,U⟩ (D_w (u:=.tup [.AJ,I64 (fQ (Ht.l k) (Ho.mk g.Bay g.Row n):Int)]) G G G G (Gq (G89 (m:=k) (a:=(Ho.mk g.Bay g.Row n)) 0 E0 G G G G G26 mO QL G) G) (Gc (u:=I64 (fQ (Ht.l k) (Ho.mk g.Bay g.Row n):Int)) G G ⟨Gq (Jd G G G) G,U⟩ (H9a (u:=.AJ) G G G G (Gq (RZ (m:=k) (a:=(Ho.mk g.Bay g.Row n)) (v:=a4) 0 G G G G G G) G) (Yi ?_))))))))))));refine g2 (Jr fun g3=>(JLh (.agg (G5.cs g)) (Gi Zm G G G) G ?_));obtain⟨a5,g4,h⟩:=Gd h;refine JLh (BL a5) (Gn G (Gfb g a5 g4) Hec ⟨G,G,U⟩) G (JLh (BL (!a5)) (Y5 (b:=a5) G G) G (G6 (g3 (JCc G h (fun h hb=>?_) (fun h hb=>?_)))))
    .refine Jr fun g5=>(JLm (BL false) G (G6 (g5 (Gr (⟨[BL false],[],U,G,⟨⟨_,G,.conv (.same G)⟩,U⟩,G,false,Eq.mpr (Pw h) hp,G⟩)))))
    .refine Gk (f7 (G1 (JLh (I64 ((o+1:Nat):Int)) (Hx (Hc b6 f0) G G G) G (JLm (I64 ((o+1:Nat):Int)) G (G6 (j6 _ _ (o+1) (Ht.put k (Ho.mk g.Bay g.Row n) a4) (app1 f6 h) (by omega) ⟨(.sm G G),⟨fmQ G,U⟩,rfl⟩))))))
  .have h:=app1 c4 (Hv b5 (Ha hb));refine H9 (j3 (Js fun g6=>Jr fun g7=>(JLh (.AA (Ka s)) (G8 Q1 G G G) G (JLh (E6 s.Covers) (Gb Qb G G G) G (JLl Jj G G G fun g8=>(JLm (I64 0) G (G6 (g7 (Gf ?_)))))))));obtain⟨j8,g9,h0,c6,h⟩:=J6 h;refine zAC h (fun t w=>[(3,.mp 1068),(55,E6 s.Covers),(56,Eo s.Covers.length),(57,Eo t)]) (fun t w=>(Kc w)) ⟨(.sm G G),⟨fmQ G,U⟩,rfl⟩ ?_;clear h;intro t w b9 k9 j9;refine Jr fun h1=>(JLh (BL (decide ((t:Int) < (s.Covers.length:Int)))) (Hs G G G) G (G6 (h1 (Js fun h2=>Gh G (fun hb=>?_) (fun hb=>?_)))))
   .have c0:=Jp hb;obtain⟨c,k4,h3,h4,h⟩:=Hu b9 c0;replace h:=Yg h0 h;refine Gk (h2 (Js fun h5=>Gf (Jr fun h6=>(JLh (.AA [I64 c.Bay,E2 c.Rows]) (Gs (f:=Gv.av) (xs:=s.Covers) (y:=c) G G G Jj h3 G) G (JLh (.agg [I64 c.Bay,E2 c.Rows]) (Gi cO G G G) G (JLh (.ptr 1067 0) (Jo 1067 2 iD G G) G (J3 (u:=.AJ) (Hm (u:=.agg [I64 c.Bay,E2 c.Rows]) (ds:=[I64 c.Bay,E2 c.Rows]) mN G G G G G G G G) (G6 (h6 (fzQ [(3,.mp 1068),(8,.AA [I64 c.Bay,E2 c.Rows]),(55,E6 s.Covers),(56,Eo s.Covers.length),(57,Eo t)] (Kc w) 1067 rfl rfl rfl ⟨fmQ G,U⟩ rfl (Js fun h7=>?_)))))))))));refine Jr fun h8=>(JLh (.AA [I64 c.Bay,E2 c.Rows]) (G8 Ym G G G) G (JLh (I64 c.Bay) (Gb Ga G G G) G (JLh (BL (decide (c.Bay < 0))) (Hs G G G) G (JLm (BL (decide (c.Bay < 0))) G (JLo (.AA [I64 c.Bay,E2 c.Rows]) [] G .scf U (fun hc=>G8 Ym G G G) G (JLo (I64 c.Bay) [65] G .scf ⟨Ua,U⟩ (fun hc=>Gb Ga G G G) G (JLo (BL (decide (40<=c.Bay))) [66] G .scf ⟨Ua,U⟩ (fun hc=>cN G G G) G (JLh (BL ((decide (c.Bay < 0))||(decide (40<=c.Bay)))) (Rq G G G G) G (JLm (BL ((decide (c.Bay < 0))||(decide (40<=c.Bay)))) G (JLo (.AA [E2 c.Rows]) [] G .scf U (fun hc=>G8 Qp G G G) G (JLo (E2 c.Rows) [70] G .scf ⟨Ua,U⟩ (fun hc=>Gb J1 G G G) G (JLo (Eo c.Rows.length) [71] G .scf ⟨Ua,U⟩ (fun hc=>Yj (f:=I64) (xs:=c.Rows) H5 G G) G (JLo (BL (decide ((c.Rows.length:Int)=0))) [72] G .scf ⟨Ua,U⟩ (fun hc=>Jy G G G) G ?_)))))))))))));refine JLh (BL (((decide (c.Bay < 0))||(decide (40<=c.Bay)))||(decide ((c.Rows.length:Int)=0)))) (Rq G G G G) G (G6 (h8 (JCc G h (fun h hb=>?_) (fun h hb=>?_))))
    .refine Jr fun h9=>(JLm (BL false) G (G6 (h9 (Gr (⟨[BL false],[],U,G,⟨⟨_,G,.conv (.same G)⟩,U⟩,G,false,Eq.mpr (Pw h) hp,G⟩)))))
    .refine Gk (h7 (Jr fun i0=>(JLh (.AA [E2 c.Rows]) (G8 Qp G G G) G (JLh (E2 c.Rows) (Gb J1 G G G) G (JLl H5 G G G fun i1=>(JLm (I64 0) G (G6 (i0 (Gf ?_)))))))));obtain⟨i2,c7,c8,c1,h⟩:=J6 h;refine zAC h (fun i j=>[(3,.mp 1068),(8,.AA [I64 c.Bay,E2 c.Rows]),(55,E6 s.Covers),(56,Eo s.Covers.length),(57,Eo t),(76,E2 c.Rows),(77,Eo c.Rows.length),(78,Eo i)]) (fun i j=>(Kc j)) ⟨(.sm G G),⟨fmQ G,U⟩,rfl⟩ ?_;clear h;intro i j a6 k5 i3;refine Jr fun c9=>(JLh (BL (decide ((i:Int) < (c.Rows.length:Int)))) (Hs G G G) G (G6 (c9 (Js fun d0=>Gh G (fun hb=>?_) (fun hb=>?_)))))
     .have a7:=Jp hb;obtain⟨d,k0,d1,d2,h⟩:=Hu a6 a7;replace h:=Yg c8 h;refine Gk (d0 (Js fun d3=>Gf (Jr fun d4=>(JLm (Eo i) G (JLh (.AA [I64 d]) (Gs (f:=I64) (xs:=c.Rows) (y:=d) G G G H5 d1 G) G (JLh (I64 d) (Gb Ga G G G) G (JLm (Eo i) G (JLm (I64 d) G (G6 (d4 (Js fun d5=>?_)))))))))));refine Jr fun d6=>(JLm (I64 d) G (JLh (BL (decide (d < 0))) (Hs G G G) G (JLm (BL (decide (d < 0))) G (JLo (I64 d) [] G .scf U (fun hc=>G3 G G) G (JLo (BL (decide (30 < d))) [86] G .scf ⟨Ua,U⟩ (fun hc=>aB G G G) G (JLh (BL ((decide (d < 0))||(decide (30 < d)))) (Rq G G G G) G (JLm (BL ((decide (d < 0))||(decide (30 < d)))) G (JLo (Eo i) [] G .scf U (fun hc=>G3 G G) G (JLo (BL (decide (0 < (i:Int)))) [90] G .scf ⟨Ua,U⟩ (fun hc=>aB G G G) G (JLo (BL (decide (0 < (i:Int)))) [91] G .scf ⟨Ua,U⟩ (fun hc=>G3 G G) G (JLo (I64 d) [] G .optt U (fun hc=>G3 G G) G (JLo (.AA [E2 c.Rows]) [] G .optt U (fun hc=>G8 Qp G G G) G (JLo (E2 c.Rows) [94] G .optt ⟨Ua,U⟩ (fun hc=>Gb J1 G G G) G ?_)))))))))))));refine JLo (Eo i) [] G .optt U (fun hc=>G3 G G) G ?_;obtain⟨i4,d7,h⟩:=Gd h;refine JLo (I64 i4) [96] G .optt ⟨Ua,U⟩ (fun hc=>kL (iN (Gw hc d7)) G G G) G ?_;obtain⟨a0,d8,h⟩:=Gd h;refine JLo (.AA [I64 a0]) [95,97] G .optt ⟨Ua,Ua,U⟩ (fun hc=>(match Qc (Gw hc d8) with | ⟨_,hm_,hy_⟩=>Gs (f:=I64) (xs:=c.Rows) (y:=a0) G G G H5 hy_ hm_)) G (JLo (I64 a0) [98] G .optt ⟨Ua,U⟩ (fun hc=>Gb Ga G G G) G (JLo (BL (decide (d<=a0))) [93,99] G .optt ⟨Ua,Ua,U⟩ (fun hc=>pF G G G) G (G9 (u:=BL ((decide (0 < (i:Int)))&&(decide (d<=a0)))) [(92,BL (decide (0 < (i:Int)))),(100,_)] G G G .scf ⟨.all id,.part,U⟩ (fun hc=>Ja G G G G) ?_)))
      refine JLh (BL (((decide (d < 0))||(decide (30 < d)))||((decide (0 < (i:Int)))&&(decide (d<=a0))))) (Rq G G G G) G (G6 (d6 (JCc G h (fun h hb=>?_) (fun h hb=>?_))))
      .refine Jr fun d9=>(JLm (BL false) G (G6 (d9 (Gr (⟨[BL false],[],U,G,⟨⟨_,G,.conv (.same G)⟩,U⟩,G,false,Eq.mpr (Pw h) hp,G⟩)))))
      .refine Gk (d5 (gQ (l':=[(3,.mp 1068),(8,.AA [I64 c.Bay,E2 c.Rows]),(10,I64 d),(55,E6 s.Covers),(56,Eo s.Covers.length),(57,Eo t),(76,E2 c.Rows),(77,Eo c.Rows.length),(78,Eo i)]) (L':=(Kc j)) ⟨(.sm G G),⟨fmQ G,U⟩,rfl⟩ ?_));obtain⟨i5,a8,h⟩:=Gd h;obtain⟨a1,a9,h⟩:=Q7 h;refine Q6 [7,9] [0,0,0,0,0,0,0,0,1,0] [0,0,0,0,0,1,1,0,1,0] [(Kc j),((1068,MI 196 Ho.kv I64 j (Ho.mk c.Bay d 2) 0)::(Kc j)),((1068,MP 196 Ho.kv I64 (Ht.put j (Ho.mk c.Bay d 2) a1))::((1068,MI 196 Ho.kv I64 j (Ho.mk c.Bay d 2) 0)::(Kc j)))] J4 zR rfl rfl ?_;refine Gc (u:=.mp 1068) G G ⟨Gq (G3 G G) G,U⟩ (Gc (u:=.AA [I64 c.Bay,E2 c.Rows]) G G ⟨Gq (G8 Ym G G G) G,U⟩ (Gc (u:=I64 c.Bay) G G ⟨Gq (Gb Ga G G G) G,U⟩ (Gc (u:=I64 d) G G ⟨Gq (G3 G G) G,U⟩ (Gc (u:=.agg [I64 c.Bay,I64 d,I64 2]) G G ⟨Gq (ZJ (cs:=[I64 c.Bay,I64 d,I64 2]) [E0,E0,E0] Gca G51 G G) G,U⟩ (Gc (u:=I64 i5) G G ⟨Gq (((Pw a8) ▸ vF (av:=I64) (m:=j) (a:=(Ho.mk c.Bay d 2)) 0 E0 G G G G G26 mO QL G)) G,Gq (((Pw a8) ▸ H11 (av:=I64) (m:=j) (a:=(Ho.mk c.Bay d 2)) 0 E0 G G G G G26 mO QL G)) G,U⟩ (Gc (u:=I64 a1) G G ⟨Gq (Hx a9 G G G) G,Gq (Hx a9 G G G) G,U⟩ (D_w (u:=.tup [.AJ,I64 (fQ (Ht.l j) (Ho.mk c.Bay d 2):Int)]) G G G G (Gq (G89 (m:=j) (a:=(Ho.mk c.Bay d 2)) 0 E0 G G G G G26 mO QL G) G) (Gc (u:=I64 (fQ (Ht.l j) (Ho.mk c.Bay d 2):Int)) G G ⟨Gq (Jd G G G) G,U⟩ (H9a (u:=.AJ) G G G G (Gq (RZ (m:=j) (a:=(Ho.mk c.Bay d 2)) (v:=a1) 0 G G G G G G) G) (Yi ?_))))))))));refine d3 (G1 (JLh (I64 ((i+1:Nat):Int)) (Hx (Hc a7 i1) G G G) G (JLm (I64 ((i+1:Nat):Int)) G (G6 (i3 _ _ (i+1) (Ht.put j (Ho.mk c.Bay d 2) a1) (app1 d2 h) (by omega) ⟨(.sm G G),⟨fmQ G,U⟩,rfl⟩)))))
     .have h:=app1 c1 (Hv a6 (Ha hb));refine H9 (h5 (G1 (JLh (I64 ((t+1:Nat):Int)) (Hx (Hc c0 g8) G G G) G (JLm (I64 ((t+1:Nat):Int)) G (G6 (j9 _ _ (t+1) j (app1 h4 h) (by omega) ⟨(.sm G G),⟨fmQ G,U⟩,rfl⟩))))))
   .have h:=app1 c6 (Hv b9 (Ha hb));refine H9 (g6 (Js fun e0=>Jr fun e1=>(JLm (.mp 1068) G (JLh (.it 1069) (J43 1069 (m:=w) G G G G mO) G (G6 (e1 (Gf ?_)))))));obtain⟨i6,e2,e3,c2,h⟩:=J22 h;refine J3a (Ht.size w) (fun x (a2:Unit)=>MInv i6 e2 (Ht.l w) x a2) (fun x a2=>[(115,.it 1069)]) (fun x a2=>[(1068,MP 196 Ho.kv I64 w),(1069,.iter (.mp 1068) (Ht.size w) x)]) () (MInv.start h hp) ⟨⟨.same G,U⟩,⟨⟨_,G,.map⟩,⟨_,G,.iter G⟩,U⟩,G⟩ ?_;clear h hp;intro x a2 b0 k6 i7;refine Jr fun b1=>fX G G G (Jf1 (m:=w) G G G G) ?_;intro u_ L_ hn_;rcases hn_ with ⟨c3,z,a3,b2,rfl,rfl⟩ | ⟨e4,rfl,rfl⟩
    .obtain⟨k7,h,b3,b4⟩:=b0.step a3 b2;replace h:=yG e3 h;refine JLh (BL true) (Jd G G G) G (G6 (b1 (Js fun e5=>J3b G (Gk (e5 (Gf (Jr fun e6=>(JLh (.tup [.agg (Ho.cs z.1),I64 z.2]) (J47 (kv:=Ho.kv) (av:=I64) (m:=w) (q:=c3) (seen:=x) (e:=z) G G G G a3) G (JLh (I64 z.2) (Jd G G G) G (JLm (I64 z.2) G (G6 (e6 (Jr fun e7=>(JLm (I64 z.2) G (JLh (BL (decide (1 < z.2))) (aB G G G) G (G6 (e7 (JCc G h (fun h hb=>?_) (fun h hb=>?_)))))))))))))))))))
     .refine Jr fun e8=>(JLm (BL false) G (G6 (e8 (Gr ?_))));obtain⟨y_,hy_,hl_⟩:=Qac h;exact⟨[BL false],[],U,G,⟨⟨_,G,.conv (.same G)⟩,U⟩,G,false,Eq.mpr (Pw hl_) (b3 y_ hy_),G⟩
     .refine Gk (i7 _ _ (x++[c3]) () (b4 _ (Pw h).symm) (H3e (Pu a3).1 b2) ⟨⟨.same G,U⟩,⟨⟨_,G,.map⟩,⟨_,G,.iter G⟩,U⟩,G⟩)
    .obtain⟨p_,h,hp⟩:=b0.done e4;replace h:=app1 c2 h;refine JLh (BL false) (Jd G G G) G (G6 (b1 (Js fun k1=>H0a G (H9 (e0 (Jr fun e9=>(JLm (BL true) G (G6 (e9 (Gr (⟨[BL true],[],U,G,⟨⟨_,G,.conv (.same G)⟩,U⟩,G,true,Eq.mpr (Pw h) hp,G⟩)))))))))))
theorem Gfd (S_:(Ge)->Option Bool) (hS_:∀ s r,S_ s=some r->∃ p:Prop,oT s (fun r_=>r_=r)=some p/\p) (s:Ge) (r:Bool) (h:S_ s=some r):Pure Ep 46 [.agg (Ge.cs s)] (·=BL r):=by
 obtain⟨p,a,b⟩:=hS_ s r h;exact(Gfc s _ p a b).monoP (fun av hh=>by obtain⟨r_,rfl,ha⟩:=hh; exact ha)

def lY (size:Int):Option AE:=bif decide (size=40) then (some [0]) else (bif decide (size=20) then (some [1,2]) else (some []))
theorem G96 (size:Int) (r:AE) (h:lY size=some r):Pure Ep 184 [U8 size] (·=Ed r):=by
 unfold lY at h;refine Gy [.tmp 2] Tryz.func184 G G (Jr fun a=>(JLh (Ed ([]:AE)) (Jx 1 G G) G (G6 (a (Js fun b=>Jr fun c=>(JLm (U8 size) G (G6 (c (Gf (Jr fun d=>(JLh (BL (decide (size=40))) (Jy G G G) G (JLm (BL (decide (size=40))) G (G6 (d (JCc G h (fun h hb=>?_) (fun h hb=>?_))))))))))))))))
 .refine Jr fun e=>(JLh (Ed [0]) (Hf (xs:=[U8 0]) G ⟨G,G,U⟩ sA Gae G G G G) G (JLm (Ed [0]) G (G6 (e (Gr (AL (fun r:AE=>(Ed r:AV)) h))))))
 .refine Jr fun f=>(JLh (BL (decide (size=20))) (Jy G G G) G (JLm (BL (decide (size=20))) G (G6 (f (JCc G h (fun h hb=>?_) (fun h hb=>?_))))))
  .refine Jr fun g=>(JLh (Ed [1,2]) (Hf (xs:=[U8 1,U8 2]) G ⟨G,G,G,G,U⟩ sA Gae G G G G) G (JLm (Ed [1,2]) G (G6 (g (Gr (AL (fun r:AE=>(Ed r:AV)) h))))))
  .refine Gk (b (Jr fun i=>(JLh (Ed ([]:AE)) (Jx 1 G G) G (G6 (i (Gr (AL (fun r:AE=>(Ed r:AV)) h)))))))
end
end Go.Proofs.YtkiekighbhnolaaGreat
