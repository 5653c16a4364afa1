/- Walks of functions. -/
import Derived.Test.YtidpfkmbfgihlaaGreatSortLay
import Derived.Test.YtidpfkmbfgihlaaGreatSeq
set_option maxRecDepth 100000
set_option maxHeartbeats 1000000
set_option linter.unusedVariables false
set_option linter.unusedSimpArgs false
namespace Go.Proofs.YtidpfkmbfgihlaaGreat
open Go.RowKit
noncomputable section
abbrev Eo:=Tryz.prog
structure Hn where
 n:Int
 low:Int
 high:Int
 deriving DecidableEq,Inhabited
def Hn.cs (x:Hn):List AV:=[I64 x.n,I64 x.low,I64 x.high]
def Hn.av (x:Hn):AV:=.agg x.cs
structure G2 where
 Bay:Int
 Row:Int
 Deck:Bool
 Tiers:Int
 Height:Int
 Kilos20:Int
 Kilos40:Int
 Lash:Int
 Plugs:List Int
 X:Int
 Y:Int
 Z:Int
 deriving DecidableEq,Inhabited
def G2.cs (x:G2):List AV:=[I64 x.Bay,I64 x.Row,BL x.Deck,I64 x.Tiers,I64 x.Height,I64 x.Kilos20,I64 x.Kilos40,I64 x.Lash,E1 x.Plugs,I64 x.X,I64 x.Y,I64 x.Z]
def G2.av (x:G2):AV:=.agg x.cs
abbrev Ei (x:G2):AV:=.dptr (G2.cs x)
abbrev E3:=LS 12 G2.av
structure G8 where
 Bay:Int
 Rows:List Int
 deriving DecidableEq,Inhabited
def G8.cs (x:G8):List AV:=[I64 x.Bay,E1 x.Rows]
def G8.av (x:G8):AV:=.agg x.cs
abbrev E7:=LS 2 G8.av
structure Light where
 Kilos:Int
 X:Int
 Y:Int
 Z:Int
 deriving DecidableEq,Inhabited
def Light.cs (x:Light):List AV:=[I64 x.Kilos,I64 x.X,I64 x.Y,I64 x.Z]
structure Row where
 Draught:Int
 Kilos:Int
 Buoy:Int
 Metacentre:Int
 Yb3:Int
 deriving DecidableEq,Inhabited
def Row.cs (x:Row):List AV:=[I64 x.Draught,I64 x.Kilos,I64 x.Buoy,I64 x.Metacentre,I64 x.Yb3]
def Row.av (x:Row):AV:=.agg x.cs
abbrev E4:=LS 5 Row.av
structure Frame where
 X:Int
 Light:Int
 Share:Int
 Shear:Int
 Bend:Int
 deriving DecidableEq,Inhabited
def Frame.cs (x:Frame):List AV:=[I64 x.X,I64 x.Light,I64 x.Share,I64 x.Shear,I64 x.Bend]
def Frame.av (x:Frame):AV:=.agg x.cs
abbrev E5:=LS 5 Frame.av
structure Gp where
 Kilos:Int
 X:Int
 Y:Int
 Z:Int
 Surface:Int
 Steps:List Int
 deriving DecidableEq,Inhabited
def Gp.cs (x:Gp):List AV:=[I64 x.Kilos,I64 x.X,I64 x.Y,I64 x.Z,I64 x.Surface,E1 x.Steps]
def Gp.av (x:Gp):AV:=.agg x.cs
abbrev E6:=LS 6 Gp.av
structure G4 where
 Tolerance:Int
 Trim:Int
 List_:Int
 Stability:Int
 deriving DecidableEq,Inhabited
def G4.cs (x:G4):List AV:=[I64 x.Tolerance,I64 x.Trim,I64 x.List_,I64 x.Stability]
structure Gk where
 Columns:List G2
 Covers:List G8
 Light:Light
 Rows:List Row
 Frames:List Frame
 Tanks:List Gp
 G4:G4
 deriving DecidableEq,Inhabited
def Gk.cs (x:Gk):List AV:=[E3 x.Columns,E7 x.Covers,I64 x.Light.Kilos,I64 x.Light.X,I64 x.Light.Y,I64 x.Light.Z,E4 x.Rows,E5 x.Frames,E6 x.Tanks,I64 x.G4.Tolerance,I64 x.G4.Trim,I64 x.G4.List_,I64 x.G4.Stability]
abbrev Ef (x:Gk):AV:=.dptr (Gk.cs x)
structure Hh where
 e0:Int
 e1:Int
 e2:Int
 deriving DecidableEq,Inhabited
def Hh.cs (x:Hh):List AV:=[I64 x.e0,I64 x.e1,I64 x.e2]
def Hh.ks (x:Hh):List Value:=[.int .i64 x.e0,.int .i64 x.e1,.int .i64 x.e2]
def Hh.kv (x:Hh):Value:=.agg x.ks.toArray
structure Slot where
 G2:Int
 Tier:Int
 Half:Int
 deriving DecidableEq,Inhabited
def Slot.cs (x:Slot):List AV:=[I64 x.G2,I64 x.Tier,U8 x.Half]
def Slot.av (x:Slot):AV:=.agg x.cs
abbrev Ej (x:Slot):AV:=.dptr (Slot.cs x)
abbrev E9:=LS 3 Slot.av
namespace XAF
theorem Z15 (a b:Hh):J81 Eo 4 178 [.int .i64 a.e0,.int .i64 a.e1,.int .i64 a.e2] [.int .i64 b.e0,.int .i64 b.e1,.int .i64 b.e2]=some (decide (a=b)):=by
 refine(show _=some ((a.e0==b.e0)&&((a.e1==b.e1)&&((a.e2==b.e2)&&true))) by kernel_rfl).trans (congrArg some ?_)
 rw [Bool.eq_iff_iff]
 simp only [Mh,beq_iff_eq,Mi,Bool.and_true]
 constructor
 ·intro h; obtain⟨_,_,_⟩:=a; obtain⟨_,_,_⟩:=b; simp_all
 ·intro h; subst h; simp
theorem H6f:Gf6 Eo 107 2=true:=by kernel_rfl
theorem Re4:Gf6 Eo 205 3=true:=by kernel_rfl
theorem G7c:Gf6 Eo 58 12=true:=by kernel_rfl
theorem Q75:Yec Eo 178 3 1=true:=by kernel_rfl
theorem Q08:H7 Eo 114=true:=by kernel_rfl
theorem R63:H7 Eo 125=true:=by kernel_rfl
theorem Q01:H7 Eo 154=true:=by kernel_rfl
theorem Gf0:Jk Eo 107 0 0=true:=by kernel_rfl
theorem G09:Jk Eo 107 1 1=true:=by kernel_rfl
theorem J15:Jk Eo 205 0 0=true:=by kernel_rfl
theorem Q57:Jk Eo 205 1 1=true:=by kernel_rfl
theorem Q56:Jk Eo 205 2 2=true:=by kernel_rfl
theorem Hv:Jk Eo 36 0 0=true:=by kernel_rfl
theorem Jp:Jk Eo 36 1 1=true:=by kernel_rfl
theorem G7a:Jk Eo 58 0 0=true:=by kernel_rfl
theorem G79:Jk Eo 58 1 1=true:=by kernel_rfl
theorem J14:Jk Eo 58 10 10=true:=by kernel_rfl
theorem H6a:Jk Eo 58 11 11=true:=by kernel_rfl
theorem Yw:Jk Eo 58 2 2=true:=by kernel_rfl
theorem H1e:Jk Eo 58 3 3=true:=by kernel_rfl
theorem Haa:Jk Eo 58 4 4=true:=by kernel_rfl
theorem Qdb:Jk Eo 58 5 5=true:=by kernel_rfl
theorem Qda:Jk Eo 58 6 6=true:=by kernel_rfl
theorem Qd9:Jk Eo 58 7 7=true:=by kernel_rfl
theorem J5e:Jk Eo 58 8 8=true:=by kernel_rfl
theorem J5d:Jk Eo 58 9 9=true:=by kernel_rfl
theorem Gd2:Zo Eo 177 178 3=true:=by kernel_rfl
theorem J0:Eo.follows .mixedOrders=true:=by kernel_rfl
theorem Yv:placesOf Eo 205=some [(0,1),(1,1),(2,1)]:=by kernel_rfl
theorem Gac:placesOf Eo 43=some [(0,1),(1,1),(2,1)]:=by kernel_rfl
theorem J9:Y6 Eo 26=true:=by kernel_rfl
theorem Qa:Y6 Eo 27=true:=by kernel_rfl
theorem Gc:Y6 Eo 3=true:=by kernel_rfl
theorem Q1:Y6 Eo 4=true:=by kernel_rfl
theorem Ho:Y6 Eo 5=true:=by kernel_rfl
theorem Yk:Y6 Eo 51=true:=by kernel_rfl
theorem Q00:Yx Eo 107 2=true:=by kernel_rfl
theorem R55:Yx Eo 205 3=true:=by kernel_rfl
theorem Hd2:Yx Eo 58 12=true:=by kernel_rfl
theorem Gab:sliceB Eo 168 5 1=true:=by kernel_rfl
theorem H52:sliceB Eo 203 205 3=true:=by kernel_rfl
theorem Ht:sliceB Eo 26 58 12=true:=by kernel_rfl
theorem Jj:sliceB Eo 27 107 2=true:=by kernel_rfl
theorem Gz:sliceB Eo 51 3 1=true:=by kernel_rfl
theorem Jfc:(Eo.info? 178).bind (fun i=>i.zero.map Value.cells)=some (List.toArray [E0,E0,E0]):=by kernel_rfl
theorem G07:(Eo.info? 205).bind (fun i=>i.zero.map Value.cells)=some (List.toArray [E0,E0,E0]):=by kernel_rfl
theorem Gd1:(Eo.info? 43).bind (fun i=>i.zero.map Value.cells)=some (List.toArray [E0,E0,.int .u8 0]):=by kernel_rfl
theorem Ged:Y4 Eo 107 2=true:=by kernel_rfl
theorem Hd1:Y4 Eo 205 3=true:=by kernel_rfl
theorem Q51:Y4 Eo 5 1=true:=by kernel_rfl
theorem G35:Y4 Eo 58 12=true:=by kernel_rfl
theorem H50:(Eo.info? 3).bind (·.zero)=some E0:=by kernel_rfl
theorem Jd0:Gd7 Eo 178 Hh.kv:=Gd7.of_eq Hh.ks (by kernel_rfl) (fun a b h=>by simp only [Hh.ks,List.cons.injEq,Value.int.injEq,Value.bool.injEq,Value.string.injEq,true_and,and_true] at h; obtain⟨_,_,_⟩:=a; obtain⟨_,_,_⟩:=b; simp_all) 4 (by decide) (fun a b=>Z15 a b) (fun a=>by kernel_rfl) (fun a=>by simp [Instr.sameBits,Hh.ks])
end XAF
open XAF

def G5c (l:List Hn):Option Bool:=
 each (fun a d (c:Unit) b=>
  bif ((decide (a.n < a.low))||(decide (a.high < a.n))) then
  (some false)
  else
  (b ()))
 (fun(c:Unit)=>
  some true) l 0 ()
theorem Hca (l:List Hn) (r:Bool) (h:G5c l=some r):Pure Eo 154 [LS 3 Hn.av l] (·=BL r):=by
 unfold G5c at h
 refine H0 [.tmp 2] Tryz.func154 O O (Jr fun x=>(JLm (BL false) O (G5 (x (Js fun z=>Jr fun a0=>(JLm (LS 3 Hn.av l) O (JLl H52 O O O fun a1=>(JLm (I64 0) O (G5 (a0 (Gx ?_)))))))))))
 obtain⟨a2,i,j,g,h⟩:=Jy h
 refine Jc (fun b (c:Unit)=>each a2 i (List.drop b l) b c=some r) (fun b c=>[(5,LS 3 Hn.av l),(6,En l.length),(7,En b)]) (fun b c=>[]) (fun b=>l.length - b) 0 () h ⟨(.sm O O),G,O⟩ ?_
 clear h
 intro b c d a5 a3
 refine Jr fun k=>(JLh (BL (decide ((b:Int) < (l.length:Int)))) (Qg O O O) O (G5 (k (Js fun m=>Gn O (fun hb=>?_) (fun hb=>?_)))))
 ·
  have e:=Qr hb
  obtain⟨a,a4,o,p,h⟩:=Ja d e
  replace h:=G1d j h
  refine Gr (m (Js fun q=>Gx (Jr fun s=>(JLh (.dptr [I64 a.n,I64 a.low,I64 a.high]) (Hg (f:=Hn.av) (xs:=l) (y:=a) O O O H52 o O) O (JLh (.agg [I64 a.n,I64 a.low,I64 a.high]) (Gj Re4 O O O) O (JLh (.ptr 1192 0) (Hq 1192 3 Hd1 O O) O (Hp (u:=.junk) (Hc (u:=.agg [I64 a.n,I64 a.low,I64 a.high]) (ds:=[I64 a.n,I64 a.low,I64 a.high]) R55 O O O O O O O O) (G5 (s (fzQ [(4,.dptr [I64 a.n,I64 a.low,I64 a.high]),(5,LS 3 Hn.av l),(6,En l.length),(7,En b)] [] 1192 rfl rfl rfl G rfl ?_))))))))))
  refine Jr fun t=>(JLh (.dptr [I64 a.n,I64 a.low,I64 a.high]) (G9 J15 O O O) O (JLh (I64 a.n) (Gh Gc O O O) O (JLh (.dptr [I64 a.low,I64 a.high]) (G9 Q57 O O O) O (JLh (I64 a.low) (Gh Gc O O O) O (JLh (BL (decide (a.n < a.low))) (Qg O O O) O (JLm (BL (decide (a.n < a.low))) O (JLo (.dptr [I64 a.n,I64 a.low,I64 a.high]) [] O .scf G (fun hc=>G9 J15 O O O) O (JLo (I64 a.n) [17] O .scf ⟨Ua,G⟩ (fun hc=>Gh Gc O O O) O (JLo (.dptr [I64 a.high]) [] O .scf G (fun hc=>G9 Q56 O O O) O (JLo (I64 a.high) [19] O .scf ⟨Ua,G⟩ (fun hc=>Gh Gc O O O) O (JLo (BL (decide (a.high < a.n))) [18,20] O .scf ⟨Ua,Ua,G⟩ (fun hc=>Gbe O O O) O (JLh (BL ((decide (a.n < a.low))||(decide (a.high < a.n)))) (G2f O O O O) O (G5 (t ?_))))))))))))))
  refine JCc O h ?_ ?_<;>intro h hb
  ·
   refine Jr fun v=>(JLm (BL false) O (G5 (v (Gq (fin1 BL h)))))
  ·
   refine Gr (q (G1 (JLh (I64 ((b+1:Nat):Int)) (Jg (J7 e a1) O O O) O (JLm (I64 ((b+1:Nat):Int)) O (G5 (a3 _ _ (b+1) () (app1 p h) (by omega) ⟨(.sm O O),G,rfl⟩))))))
 ·
  have h:=app1 g (Jb d (Hs hb))
  refine Jf (z (Jr fun w=>(JLm (BL true) O (G5 (w (Gq (fin1 BL h)))))))

def Gb6 (c:G2):Option Bool:=
 each (fun d a (f:Unit) e=>
  wrp (c.Tiers - 1) fun g=>
  bnd (G5c [(Hn.mk d 0 g)]) fun b=>
  bnd (bif ((!(!b))&&(decide (0 < (a:Int)))) then some (IntKind.i64.wrap ((a:Int) - 1)) else some 0) fun h=>
  bnd (bif ((!(!b))&&(decide (0 < (a:Int)))) then Z3 c.Plugs h some else some default) fun i=>
  bif ((!b)||((decide (0 < (a:Int)))&&(decide (d≤i)))) then
  (some false)
  else
  (e ()))
 (fun(f:Unit)=>
  bnd (G5c [(Hn.mk c.Bay 0 39),(Hn.mk c.Row 0 30),(Hn.mk c.Tiers 1 10),(Hn.mk c.Height 0 40000),(Hn.mk c.Kilos20 0 500000000),(Hn.mk c.Kilos40 0 500000000),(Hn.mk c.Lash 0 1000000000000),(Hn.mk c.X (-500000) 500000),(Hn.mk c.Y (-500000) 500000),(Hn.mk c.Z (-500000) 500000)]) fun j=>
  some j) c.Plugs 0 ()
abbrev Ep (c:G2):List AV:=[I64 c.Tiers,I64 c.Height,I64 c.Kilos20,I64 c.Kilos40,I64 c.Lash,E1 c.Plugs,I64 c.X,I64 c.Y,I64 c.Z]
theorem Qbd (c:G2) (r:Bool) (h:Gb6 c=some r):Pure Eo 125 [.agg (G2.cs c)] (·=BL r):=by
 unfold Gb6 at h
 refine H0 [.tmp 2] Tryz.func125 O O (Jr fun a7=>(JLh (.ptr 1174 0) (Jm (cs:=(G2.cs c)) 1174 O O O O O) O (JLm (BL false) O (G5 (a7 (Gm [(1,Ei c)] [] 1174 rfl rfl rfl G rfl (by exact⟨.ptr,G⟩) (Jr fun a8=>(JLm (.fn 154 []) O (G5 (a8 (Js fun a9=>Jr fun b0=>(JLh (.dptr [E1 c.Plugs,I64 c.X,I64 c.Y,I64 c.Z]) (G9 J5e O O O) O (JLh (E1 c.Plugs) (Gh Yk O O O) O (JLl Gz O O O fun b1=>(JLm (I64 0) O (G5 (b0 (Gx ?_))))))))))))))))))
 obtain⟨b2,o,p,n,h⟩:=Jy h
 refine Jc (fun a (j:Unit)=>each b2 o (List.drop a c.Plugs) a j=some r) (fun a j=>[(1,Ei c),(3,.fn 154 []),(7,E1 c.Plugs),(8,En c.Plugs.length),(9,En a)]) (fun a j=>[]) (fun a=>c.Plugs.length - a) 0 () h ⟨(.sm O O),G,rfl⟩ ?_
 clear h
 intro a j k b6 b3
 refine Jr fun q=>(JLh (BL (decide ((a:Int) < (c.Plugs.length:Int)))) (Qg O O O) O (G5 (q (Js fun s=>Gn O (fun hb=>?_) (fun hb=>?_)))))
 ·
  have l:=Qr hb
  obtain⟨d,b5,t,v,h⟩:=Ja k l
  replace h:=G1d p h
  refine Gr (s (Js fun w=>Gx (Jr fun x=>(JLm (En a) O (JLh (.dptr [I64 d]) (Hg (f:=I64) (xs:=c.Plugs) (y:=d) O O O Gz t O) O (JLh (I64 d) (Gh Gc O O O) O (JLm (En a) O (JLm (I64 d) O (G5 (x (Jr fun z=>(JLm (.fn 154 []) O (JLm (I64 d) O (JLh (.dptr (Ep c)) (G9 H1e O O O) O (JLh (I64 c.Tiers) (Gh Gc O O O) O ?_)))))))))))))))
  obtain⟨e,a0,h⟩:=Yd2 h
  refine JLh (I64 e) (H4d a0 O O O) O (JLh (.agg [I64 d,I64 0,I64 e]) (Hb (cs:=[I64 d,I64 0,I64 e]) [(0,1),(1,1),(2,1)] [I64 0,I64 0,I64 0] [E0,E0,E0] Yv G07 (zzQ O) O O) O (JLh (LS 3 Hn.av [(Hn.mk d 0 e)]) (H9 (xs:=[.agg [I64 d,I64 0,I64 e]]) O ⟨O,O,G⟩ H52 Hd1 O O O O) O ?_))
  obtain⟨g,a1,h⟩:=Ga h
  refine JLh (BL g) (G48 (args:=[LS 3 Hn.av [(Hn.mk d 0 e)]]) (caps:=[]) O O (Hca [(Hn.mk d 0 e)] g a1) Q01 ⟨O,O,G⟩ O) O (JLh (BL (!g)) (Qx (b:=g) O O) O (JLm (BL (!g)) O (JLo (En a) [] O .scf G (fun hc=>G6 O O) O (JLo (BL (decide (0 < (a:Int)))) [24] O .scf ⟨Ua,G⟩ (fun hc=>Gbe O O O) O (JLo (BL (decide (0 < (a:Int)))) [25] O .scf ⟨Ua,G⟩ (fun hc=>G6 O O) O (JLo (I64 d) [] O .optt G (fun hc=>G6 O O) O (JLo (.dptr [E1 c.Plugs,I64 c.X,I64 c.Y,I64 c.Z]) [] O .optt G (fun hc=>G9 J5e O O O) O (JLo (E1 c.Plugs) [28] O .optt ⟨Ua,G⟩ (fun hc=>Gh Yk O O O) O (JLo (En a) [] O .optt G (fun hc=>G6 O O) O ?_)))))))))
  obtain⟨b4,a2,h⟩:=Ga h
  refine JLo (I64 b4) [30] O .optt ⟨Ua,G⟩ (fun hc=>H4d (M5 (H3 hc a2)) O O O) O ?_
  obtain⟨i,a3,h⟩:=Ga h
  refine JLo (.dptr [I64 i]) [29,31] O .optt ⟨Ua,Ua,G⟩ (fun hc=>(match Zn (H3 hc a3) with | ⟨_,hm_,hy_⟩=>Hg (f:=I64) (xs:=c.Plugs) (y:=i) O O O Gz hy_ hm_)) O (JLo (I64 i) [32] O .optt ⟨Ua,G⟩ (fun hc=>Gh Gc O O O) O (JLo (BL (decide (d≤i))) [27,33] O .optt ⟨Ua,Ua,G⟩ (fun hc=>J0b O O O) O (Gf (u:=BL ((decide (0 < (a:Int)))&&(decide (d≤i)))) [(26,BL (decide (0 < (a:Int)))),(34,_)] O O O .scf ⟨.all id,.part,G⟩ (fun hc=>Ro O O O O) ?_)))
  refine JLh (BL ((!g)||((decide (0 < (a:Int)))&&(decide (d≤i))))) (G2f O O O O) O (G5 (z (JCc O h (fun h hb=>?_) (fun h hb=>?_))))
  ·
   refine Jr fun a4=>(JLm (BL false) O (G5 (a4 (Gq (fin1 BL h)))))
  ·
   refine Gr (w (G1 (JLh (I64 ((a+1:Nat):Int)) (Jg (J7 l b1) O O O) O (JLm (I64 ((a+1:Nat):Int)) O (G5 (b3 _ _ (a+1) () (app1 v h) (by omega) ⟨(.sm O O),G,rfl⟩))))))
 ·
  have h:=app1 n (Jb k (Hs hb))
  refine Jf (a9 ?_)
  refine Jr fun a5=>(JLm (.fn 154 []) O (JLh (Ei c) (G9 G7a O O O) O (JLh (I64 c.Bay) (Gh Gc O O O) O (JLh (.agg [I64 c.Bay,I64 0,I64 39]) (Hb (cs:=[I64 c.Bay,I64 0,I64 39]) [(0,1),(1,1),(2,1)] [I64 0,I64 0,I64 0] [E0,E0,E0] Yv G07 (zzQ O) O O) O (JLh (.dptr [I64 c.Row,BL c.Deck,I64 c.Tiers,I64 c.Height,I64 c.Kilos20,I64 c.Kilos40,I64 c.Lash,E1 c.Plugs,I64 c.X,I64 c.Y,I64 c.Z]) (G9 G79 O O O) O (JLh (I64 c.Row) (Gh Gc O O O) O (JLh (.agg [I64 c.Row,I64 0,I64 30]) (Hb (cs:=[I64 c.Row,I64 0,I64 30]) [(0,1),(1,1),(2,1)] [I64 0,I64 0,I64 0] [E0,E0,E0] Yv G07 (zzQ O) O O) O (JLh (.dptr (Ep c)) (G9 H1e O O O) O (JLh (I64 c.Tiers) (Gh Gc O O O) O (JLh (.agg [I64 c.Tiers,I64 1,I64 10]) (Hb (cs:=[I64 c.Tiers,I64 1,I64 10]) [(0,1),(1,1),(2,1)] [I64 0,I64 0,I64 0] [E0,E0,E0] Yv G07 (zzQ O) O O) O (JLh (.dptr [I64 c.Height,I64 c.Kilos20,I64 c.Kilos40,I64 c.Lash,E1 c.Plugs,I64 c.X,I64 c.Y,I64 c.Z]) (G9 Haa O O O) O (JLh (I64 c.Height) (Gh Gc O O O) O (JLh (.agg [I64 c.Height,I64 0,I64 40000]) (Hb (cs:=[I64 c.Height,I64 0,I64 40000]) [(0,1),(1,1),(2,1)] [I64 0,I64 0,I64 0] [E0,E0,E0] Yv G07 (zzQ O) O O) O ?_)))))))))))))
  refine JLh (.dptr [I64 c.Kilos20,I64 c.Kilos40,I64 c.Lash,E1 c.Plugs,I64 c.X,I64 c.Y,I64 c.Z]) (G9 Qdb O O O) O (JLh (I64 c.Kilos20) (Gh Gc O O O) O (JLh (.agg [I64 c.Kilos20,I64 0,I64 500000000]) (Hb (cs:=[I64 c.Kilos20,I64 0,I64 500000000]) [(0,1),(1,1),(2,1)] [I64 0,I64 0,I64 0] [E0,E0,E0] Yv G07 (zzQ O) O O) O (JLh (.dptr [I64 c.Kilos40,I64 c.Lash,E1 c.Plugs,I64 c.X,I64 c.Y,I64 c.Z]) (G9 Qda O O O) O (JLh (I64 c.Kilos40) (Gh Gc O O O) O (JLh (.agg [I64 c.Kilos40,I64 0,I64 500000000]) (Hb (cs:=[I64 c.Kilos40,I64 0,I64 500000000]) [(0,1),(1,1),(2,1)] [I64 0,I64 0,I64 0] [E0,E0,E0] Yv G07 (zzQ O) O O) O (JLh (.dptr [I64 c.Lash,E1 c.Plugs,I64 c.X,I64 c.Y,I64 c.Z]) (G9 Qd9 O O O) O (JLh (I64 c.Lash) (Gh Gc O O O) O (JLh (.agg [I64 c.Lash,I64 0,I64 1000000000000]) (Hb (cs:=[I64 c.Lash,I64 0,I64 1000000000000]) [(0,1),(1,1),(2,1)] [I64 0,I64 0,I64 0] [E0,E0,E0] Yv G07 (zzQ O) O O) O (JLh (.dptr [I64 c.X,I64 c.Y,I64 c.Z]) (G9 J5d O O O) O (JLh (I64 c.X) (Gh Gc O O O) O (JLh (.agg [I64 c.X,I64 (-500000),I64 500000]) (Hb (cs:=[I64 c.X,I64 (-500000),I64 500000]) [(0,1),(1,1),(2,1)] [I64 0,I64 0,I64 0] [E0,E0,E0] Yv G07 (zzQ O) O O) O (JLh (.dptr [I64 c.Y,I64 c.Z]) (G9 J14 O O O) O (JLh (I64 c.Y) (Gh Gc O O O) O ?_)))))))))))))
  refine JLh (.agg [I64 c.Y,I64 (-500000),I64 500000]) (Hb (cs:=[I64 c.Y,I64 (-500000),I64 500000]) [(0,1),(1,1),(2,1)] [I64 0,I64 0,I64 0] [E0,E0,E0] Yv G07 (zzQ O) O O) O (JLh (.dptr [I64 c.Z]) (G9 H6a O O O) O (JLh (I64 c.Z) (Gh Gc O O O) O (JLh (.agg [I64 c.Z,I64 (-500000),I64 500000]) (Hb (cs:=[I64 c.Z,I64 (-500000),I64 500000]) [(0,1),(1,1),(2,1)] [I64 0,I64 0,I64 0] [E0,E0,E0] Yv G07 (zzQ O) O O) O (JLh (LS 3 Hn.av [(Hn.mk c.Bay 0 39),(Hn.mk c.Row 0 30),(Hn.mk c.Tiers 1 10),(Hn.mk c.Height 0 40000),(Hn.mk c.Kilos20 0 500000000),(Hn.mk c.Kilos40 0 500000000),(Hn.mk c.Lash 0 1000000000000),(Hn.mk c.X (-500000) 500000),(Hn.mk c.Y (-500000) 500000),(Hn.mk c.Z (-500000) 500000)]) (H9 (xs:=[.agg [I64 c.Bay,I64 0,I64 39],.agg [I64 c.Row,I64 0,I64 30],.agg [I64 c.Tiers,I64 1,I64 10],.agg [I64 c.Height,I64 0,I64 40000],.agg [I64 c.Kilos20,I64 0,I64 500000000],.agg [I64 c.Kilos40,I64 0,I64 500000000],.agg [I64 c.Lash,I64 0,I64 1000000000000],.agg [I64 c.X,I64 (-500000),I64 500000],.agg [I64 c.Y,I64 (-500000),I64 500000],.agg [I64 c.Z,I64 (-500000),I64 500000]]) O ⟨O,O,O,O,O,O,O,O,O,O,O,O,O,O,O,O,O,O,O,O,G⟩ H52 Hd1 O O O O) O ?_))))
  obtain⟨m,a6,h⟩:=Ga h
  refine JLh (BL m) (G48 (args:=[LS 3 Hn.av [(Hn.mk c.Bay 0 39),(Hn.mk c.Row 0 30),(Hn.mk c.Tiers 1 10),(Hn.mk c.Height 0 40000),(Hn.mk c.Kilos20 0 500000000),(Hn.mk c.Kilos40 0 500000000),(Hn.mk c.Lash 0 1000000000000),(Hn.mk c.X (-500000) 500000),(Hn.mk c.Y (-500000) 500000),(Hn.mk c.Z (-500000) 500000)]]) (caps:=[]) O O (Hca [(Hn.mk c.Bay 0 39),(Hn.mk c.Row 0 30),(Hn.mk c.Tiers 1 10),(Hn.mk c.Height 0 40000),(Hn.mk c.Kilos20 0 500000000),(Hn.mk c.Kilos40 0 500000000),(Hn.mk c.Lash 0 1000000000000),(Hn.mk c.X (-500000) 500000),(Hn.mk c.Y (-500000) 500000),(Hn.mk c.Z (-500000) 500000)] m a6) Q01 ⟨O,O,G⟩ O) O (JLm (BL m) O (G5 (a5 (Gq (fin1 BL h)))))

def Gfd (s:Gk) (Rp:Bool→Prop):Option Prop:=
 bif (((decide ((s.Columns.length:Int) < 1))||(decide (200 < (s.Columns.length:Int))))||(decide (40 < (s.Covers.length:Int)))) then
 (some (Rp false))
 else
 (each (fun c y (f:(Jv Hh Int)) m=>
   jp (fun g=>
    bif c.Deck then
    (g 1)
    else
    (g 0)) fun(k:Int)=>
   bnd (some (Jv.get f (Hh.mk c.Bay c.Row k) 0)) fun v=>
   chk (v+1) fun w=>
   bnd (Gb6 c) fun x=>
   bif (!x) then
   (some (Rp false))
   else
   (m (Jv.put f (Hh.mk c.Bay c.Row k) w)))
  (fun(f:(Jv Hh Int))=>
   each (fun b z (h:(Jv Hh Int)) n=>
    bif (((decide (b.Bay < 0))||(decide (40≤b.Bay)))||(decide ((b.Rows.length:Int)=0))) then
    (some (Rp false))
    else
    (each (fun a d (e:(Jv Hh Int)) i=>
      bnd (bif ((!((decide (a < 0))||(decide (30 < a))))&&(decide (0 < (d:Int)))) then chk ((d:Int) - 1) some else some 0) fun o=>
      bnd (bif ((!((decide (a < 0))||(decide (30 < a))))&&(decide (0 < (d:Int)))) then Z3 b.Rows o some else some default) fun p=>
      bif (((decide (a < 0))||(decide (30 < a)))||((decide (0 < (d:Int)))&&(decide (a≤p)))) then
      (some (Rp false))
      else
      (bnd (some (Jv.get e (Hh.mk b.Bay a 2) 0)) fun q=>
       chk (q+1) fun r=>
       i (Jv.put e (Hh.mk b.Bay a 2) r)))
     (fun(e:(Jv Hh Int))=>
      n e) b.Rows 0 h))
   (fun(h:(Jv Hh Int))=>
    J00 (fun(t:Hh×Int) (u:Unit) j=>
     bif decide (1 < t.2) then
     (lft (some (Rp false)))
     else
     (j ()))
    (fun(u:Unit)=>
     some (Rp true)) (Jv.l h) ()) s.Covers 0 f) s.Columns 0 (Jv.empty:Jv Hh Int))
def H5f (s:Gk):Option Bool:=
 bif (((decide ((s.Columns.length:Int) < 1))||(decide (200 < (s.Columns.length:Int))))||(decide (40 < (s.Covers.length:Int)))) then
 (some (id false))
 else
 (each (fun c y (f:(Jv Hh Int)) m=>
   jp (fun g=>
    bif c.Deck then
    (g 1)
    else
    (g 0)) fun(k:Int)=>
   bnd (some (Jv.get f (Hh.mk c.Bay c.Row k) 0)) fun v=>
   chk (v+1) fun w=>
   bnd (Gb6 c) fun x=>
   bif (!x) then
   (some (id false))
   else
   (m (Jv.put f (Hh.mk c.Bay c.Row k) w)))
  (fun(f:(Jv Hh Int))=>
   each (fun b z (h:(Jv Hh Int)) n=>
    bif (((decide (b.Bay < 0))||(decide (40≤b.Bay)))||(decide ((b.Rows.length:Int)=0))) then
    (some (id false))
    else
    (each (fun a d (e:(Jv Hh Int)) i=>
      bnd (bif ((!((decide (a < 0))||(decide (30 < a))))&&(decide (0 < (d:Int)))) then chk ((d:Int) - 1) some else some 0) fun o=>
      bnd (bif ((!((decide (a < 0))||(decide (30 < a))))&&(decide (0 < (d:Int)))) then Z3 b.Rows o some else some default) fun p=>
      bif (((decide (a < 0))||(decide (30 < a)))||((decide (0 < (d:Int)))&&(decide (a≤p)))) then
      (some (id false))
      else
      (bnd (some (Jv.get e (Hh.mk b.Bay a 2) 0)) fun q=>
       chk (q+1) fun r=>
       i (Jv.put e (Hh.mk b.Bay a 2) r)))
     (fun(e:(Jv Hh Int))=>
      n e) b.Rows 0 h))
   (fun(h:(Jv Hh Int))=>
    H2a (fun(t:Hh×Int) (u:Unit) j=>
     bif decide (1 < t.2) then
     (lft (some (id false)))
     else
     (j ()))
    (fun(u:Unit)=>
     some (id true)) (Jv.l h) ()) s.Covers 0 f) s.Columns 0 (Jv.empty:Jv Hh Int))
abbrev Er (s:Gk):List AV:=[E7 s.Covers,I64 s.Light.Kilos,I64 s.Light.X,I64 s.Light.Y,I64 s.Light.Z,E4 s.Rows,E5 s.Frames,E6 s.Tanks,I64 s.G4.Tolerance,I64 s.G4.Trim,I64 s.G4.List_,I64 s.G4.Stability]
theorem Qbf (s:Gk) (Rp:Bool→Prop) (p:Prop) (h:Gfd s Rp=some p) (hp:p):Pure Eo 71 [.agg (Gk.cs s)] (fun av=>∃ r,Rp r∧av=BL r):=by
 unfold Gfd at h
 refine H0 [.tmp 2] Tryz.func71 O O (Jr fun i8=>(JLh (.ptr 1124 0) (Jm (cs:=(Gk.cs s)) 1124 O O O O O) O (JLm (BL false) O (G5 (i8 (Gm [(1,Ef s)] [] 1124 rfl rfl rfl G rfl (by exact⟨.ptr,G⟩) (Js fun i9=>?_)))))))
 refine Jr fun j0=>(JLh (Ef s) (G9 Hv O O O) O (JLh (E3 s.Columns) (Gh J9 O O O) O (JLl Ht O O O fun k2=>(JLh (BL (decide ((s.Columns.length:Int) < 1))) (Qg O O O) O (JLm (BL (decide ((s.Columns.length:Int) < 1))) O (JLo (Ef s) [] O .scf G (fun hc=>G9 Hv O O O) O (JLo (E3 s.Columns) [18] O .scf ⟨Ua,G⟩ (fun hc=>Gh J9 O O O) O (JLo (En s.Columns.length) [19] O .scf ⟨Ua,G⟩ (fun hc=>G20 (f:=G2.av) (xs:=s.Columns) Ht O O) O (JLo (BL (decide (200 < (s.Columns.length:Int)))) [20] O .scf ⟨Ua,G⟩ (fun hc=>Gbe O O O) O (JLh (BL ((decide ((s.Columns.length:Int) < 1))||(decide (200 < (s.Columns.length:Int))))) (G2f O O O O) O (JLm (BL ((decide ((s.Columns.length:Int) < 1))||(decide (200 < (s.Columns.length:Int))))) O (JLo (.dptr (Er s)) [] O .scf G (fun hc=>G9 Jp O O O) O (JLo (E7 s.Covers) [24] O .scf ⟨Ua,G⟩ (fun hc=>Gh Qa O O O) O ?_)))))))))))))
 refine JLo (En s.Covers.length) [25] O .scf ⟨Ua,G⟩ (fun hc=>G20 (f:=G8.av) (xs:=s.Covers) Jj O O) O (JLo (BL (decide (40 < (s.Covers.length:Int)))) [26] O .scf ⟨Ua,G⟩ (fun hc=>Gbe O O O) O (JLh (BL (((decide ((s.Columns.length:Int) < 1))||(decide (200 < (s.Columns.length:Int))))||(decide (40 < (s.Covers.length:Int))))) (G2f O O O O) O (G5 (j0 (JCc O h (fun h hb=>?_) (fun h hb=>?_))))))
 ·
  refine Jr fun j1=>(JLm (BL false) O (G5 (j1 (Gq (⟨[BL false],[],G,O,⟨⟨_,O,.conv (.same O)⟩,G⟩,O,false,Eq.mpr (M5 h) hp,O⟩)))))
 ·
  refine Gr (i9 (Jr fun j2=>(JLh (.mp 1127) (Y17 1127 Hh.kv I64 O O) O (JLm (.mp 1127) O (G5 (j2 (Js fun j3=>Jr fun j4=>(JLh (Ef s) (G9 Hv O O O) O (JLh (E3 s.Columns) (Gh J9 O O O) O (JLl Ht O O O fun f0=>(JLm (I64 0) O (G5 (j4 (Gx ?_))))))))))))))
  obtain⟨j5,f1,f2,c4,h⟩:=Jy h
  refine Jc (fun o (k:(Jv Hh Int))=>each j5 f1 (List.drop o s.Columns) o k=some p) (fun o k=>[(1,Ef s),(3,.mp 1127),(31,E3 s.Columns),(32,En s.Columns.length),(33,En o)]) (fun o k=>[(1127,MP 177 Hh.kv I64 k)]) (fun o=>s.Columns.length - o) 0 (Jv.empty:Jv Hh Int) h ⟨(.sm O O),⟨fmQ O,G⟩,rfl⟩ ?_
  clear h
  intro o k b5 k8 j6
  refine Jr fun f3=>(JLh (BL (decide ((o:Int) < (s.Columns.length:Int)))) (Qg O O O) O (G5 (f3 (Js fun f4=>Gn O (fun hb=>?_) (fun hb=>?_)))))
  ·
   have b6:=Qr hb
   obtain⟨g,k3,f5,f6,h⟩:=Ja b5 b6
   replace h:=G1d f2 h
   refine Gr (f4 (Js fun f7=>Gx (Jr fun f8=>(JLh (Ei g) (Hg (f:=G2.av) (xs:=s.Columns) (y:=g) O O O Ht f5 O) O (JLh (.agg (G2.cs g)) (Gj G7c O O O) O (JLh (.ptr 1125 0) (Hq 1125 12 G35 O O) O (Hp (u:=.junk) (Hc (u:=.agg (G2.cs g)) (ds:=(G2.cs g)) Hd2 O O O O O O O O) (G5 (f8 ?_)))))))))
   refine fzQ [(1,Ef s),(3,.mp 1127),(5,Ei g),(31,E3 s.Columns),(32,En s.Columns.length),(33,En o)] [(1127,MP 177 Hh.kv I64 k)] 1125 rfl rfl rfl ⟨fmQ O,G⟩ rfl (Jr fun f9=>(JLm (I64 0) O (G5 (f9 ?_))))
   obtain⟨g0,c5,h⟩:=Yy h
   refine Ri (fun n:Int=>g0 n=some p) (fun n=>[(1,Ef s),(3,.mp 1127),(5,Ei g),(6,I64 n),(31,E3 s.Columns),(32,En s.Columns.length),(33,En o)]) (fun n=>[(1127,MP 177 Hh.kv I64 k)]) (fun Kj74 ej74=>?_) ?_
   ·
    refine Jr fun g1=>(JLh (.dptr ((G2.cs g).drop 2)) (G9 Yw O O O) O (JLh (BL g.Deck) (Gh Q1 O O O) O (G5 (g1 (JCc O h (fun h hb=>?_) (fun h hb=>?_))))))
    ·
     refine G1 (JLm (I64 1) O (G5 (ej74 _ _ 1 h ⟨(.sm O O),⟨fmQ O,G⟩,rfl⟩)))
    ·
     refine Gr (ej74 _ _ 0 h ⟨(.sm O O),⟨fmQ O,G⟩,rfl⟩)
   ·intro n h
    replace h:=app1 c5 h
    refine Js fun g2=>Qc (l':=[(1,Ef s),(3,.mp 1127),(5,Ei g),(6,I64 n),(31,E3 s.Columns),(32,En s.Columns.length),(33,En o)]) (L':=[(1127,MP 177 Hh.kv I64 k)]) ⟨(.sm O O),⟨fmQ O,G⟩,rfl⟩ ?_
    obtain⟨j7,b7,h⟩:=Ga h
    obtain⟨a4,b8,h⟩:=Je h
    refine J5 [9,11] [0,0,0,0,0,0,0,0,0,0,1,0] [0,0,0,0,0,0,0,1,1,0,1,0] [[(1127,MP 177 Hh.kv I64 k)],((1127,MI 177 Hh.kv I64 k (Hh.mk g.Bay g.Row n) 0)::[(1127,MP 177 Hh.kv I64 k)]),((1127,MP 177 Hh.kv I64 (Jv.put k (Hh.mk g.Bay g.Row n) a4))::((1127,MI 177 Hh.kv I64 k (Hh.mk g.Bay g.Row n) 0)::[(1127,MP 177 Hh.kv I64 k)]))] J0 (by kernel_rfl) rfl rfl ?_
    refine Gd (u:=.mp 1127) O O ⟨Ge (G6 O O) O,G⟩ (Gd (u:=Ei g) O O ⟨Ge (G9 G7a O O O) O,G⟩ (Gd (u:=I64 g.Bay) O O ⟨Ge (Gh Gc O O O) O,G⟩ (Gd (u:=.dptr ((G2.cs g).drop 1)) O O ⟨Ge (G9 G79 O O O) O,G⟩ (Gd (u:=I64 g.Row) O O ⟨Ge (Gh Gc O O O) O,G⟩ (Gd (u:=I64 n) O O ⟨Ge (G6 O O) O,G⟩ (Gd (u:=.agg [I64 g.Bay,I64 g.Row,I64 n]) O O ⟨Ge (J91 (cs:=[I64 g.Bay,I64 g.Row,I64 n]) [E0,E0,E0] Q75 Jfc O O) O,G⟩ (Gd (u:=I64 j7) O O ⟨Ge (((M5 b7) ▸ Qcd (av:=I64) (m:=k) (a:=(Hh.mk g.Bay g.Row n)) 0 E0 O O O O Jd0 Gd2 H50 O)) O,Ge (((M5 b7) ▸ Qcc (av:=I64) (m:=k) (a:=(Hh.mk g.Bay g.Row n)) 0 E0 O O O O Jd0 Gd2 H50 O)) O,G⟩ (Gd (u:=I64 a4) O O ⟨Ge (Jg b8 O O O) O,Ge (Jg b8 O O O) O,G⟩ (D_w (u:=.tup [.junk,I64 (G38 (Jv.l k) (Hh.mk g.Bay g.Row n):Int)]) O O O O (Ge (Q30 (m:=k) (a:=(Hh.mk g.Bay g.Row n)) 0 E0 O O O O Jd0 Gd2 H50 O) O) (Gd (u:=I64 (G38 (Jv.l k) (Hh.mk g.Bay g.Row n):Int)) O O ⟨Ge (H1 O O O) O,G⟩ (H8d (u:=.junk) O O O O (Ge (J69 (m:=k) (a:=(Hh.mk g.Bay g.Row n)) (v:=a4) 0 O O O O O O) O) (Qw ?_))))))))))))
    refine g2 (Jr fun g3=>(JLh (.agg (G2.cs g)) (Gj G7c O O O) O ?_))
    obtain⟨a5,g4,h⟩:=Ga h
    refine JLh (BL a5) (Gt O (Qbd g a5 g4) R63 ⟨O,O,G⟩) O (JLh (BL (!a5)) (Qx (b:=a5) O O) O (G5 (g3 (JCc O h (fun h hb=>?_) (fun h hb=>?_)))))
    ·
     refine Jr fun g5=>(JLm (BL false) O (G5 (g5 (Gq (⟨[BL false],[],G,O,⟨⟨_,O,.conv (.same O)⟩,G⟩,O,false,Eq.mpr (M5 h) hp,O⟩)))))
    ·
     refine Gr (f7 (G1 (JLh (I64 ((o+1:Nat):Int)) (Jg (J7 b6 f0) O O O) O (JLm (I64 ((o+1:Nat):Int)) O (G5 (j6 _ _ (o+1) (Jv.put k (Hh.mk g.Bay g.Row n) a4) (app1 f6 h) (by omega) ⟨(.sm O O),⟨fmQ O,G⟩,rfl⟩))))))
  ·
   have h:=app1 c4 (Jb b5 (Hs hb))
   refine Jf (j3 (Js fun g6=>Jr fun g7=>(JLh (.dptr (Er s)) (G9 Jp O O O) O (JLh (E7 s.Covers) (Gh Qa O O O) O (JLl Jj O O O fun g8=>(JLm (I64 0) O (G5 (g7 (Gx ?_)))))))))
   obtain⟨j8,g9,h0,c6,h⟩:=Jy h
   refine Jc (fun t (w:(Jv Hh Int))=>each j8 g9 (List.drop t s.Covers) t w=some p) (fun t w=>[(3,.mp 1127),(55,E7 s.Covers),(56,En s.Covers.length),(57,En t)]) (fun t w=>[(1127,MP 177 Hh.kv I64 w)]) (fun t=>s.Covers.length - t) 0 k h ⟨(.sm O O),⟨fmQ O,G⟩,rfl⟩ ?_
   clear h
   intro t w b9 k9 j9
   refine Jr fun h1=>(JLh (BL (decide ((t:Int) < (s.Covers.length:Int)))) (Qg O O O) O (G5 (h1 (Js fun h2=>Gn O (fun hb=>?_) (fun hb=>?_)))))
   ·
    have c0:=Qr hb
    obtain⟨c,k4,h3,h4,h⟩:=Ja b9 c0
    replace h:=G1d h0 h
    refine Gr (h2 (Js fun h5=>Gx (Jr fun h6=>(JLh (.dptr [I64 c.Bay,E1 c.Rows]) (Hg (f:=G8.av) (xs:=s.Covers) (y:=c) O O O Jj h3 O) O (JLh (.agg [I64 c.Bay,E1 c.Rows]) (Gj H6f O O O) O (JLh (.ptr 1126 0) (Hq 1126 2 Ged O O) O (Hp (u:=.junk) (Hc (u:=.agg [I64 c.Bay,E1 c.Rows]) (ds:=[I64 c.Bay,E1 c.Rows]) Q00 O O O O O O O O) (G5 (h6 (fzQ [(3,.mp 1127),(8,.dptr [I64 c.Bay,E1 c.Rows]),(55,E7 s.Covers),(56,En s.Covers.length),(57,En t)] [(1127,MP 177 Hh.kv I64 w)] 1126 rfl rfl rfl ⟨fmQ O,G⟩ rfl (Js fun h7=>?_)))))))))))
    refine Jr fun h8=>(JLh (.dptr [I64 c.Bay,E1 c.Rows]) (G9 Gf0 O O O) O (JLh (I64 c.Bay) (Gh Gc O O O) O (JLh (BL (decide (c.Bay < 0))) (Qg O O O) O (JLm (BL (decide (c.Bay < 0))) O (JLo (.dptr [I64 c.Bay,E1 c.Rows]) [] O .scf G (fun hc=>G9 Gf0 O O O) O (JLo (I64 c.Bay) [65] O .scf ⟨Ua,G⟩ (fun hc=>Gh Gc O O O) O (JLo (BL (decide (40≤c.Bay))) [66] O .scf ⟨Ua,G⟩ (fun hc=>H01 O O O) O (JLh (BL ((decide (c.Bay < 0))||(decide (40≤c.Bay)))) (G2f O O O O) O (JLm (BL ((decide (c.Bay < 0))||(decide (40≤c.Bay)))) O (JLo (.dptr [E1 c.Rows]) [] O .scf G (fun hc=>G9 G09 O O O) O (JLo (E1 c.Rows) [70] O .scf ⟨Ua,G⟩ (fun hc=>Gh Yk O O O) O (JLo (En c.Rows.length) [71] O .scf ⟨Ua,G⟩ (fun hc=>G20 (f:=I64) (xs:=c.Rows) Gz O O) O (JLo (BL (decide ((c.Rows.length:Int)=0))) [72] O .scf ⟨Ua,G⟩ (fun hc=>Q0 O O O) O ?_)))))))))))))
    refine JLh (BL (((decide (c.Bay < 0))||(decide (40≤c.Bay)))||(decide ((c.Rows.length:Int)=0)))) (G2f O O O O) O (G5 (h8 (JCc O h (fun h hb=>?_) (fun h hb=>?_))))
    ·
     refine Jr fun h9=>(JLm (BL false) O (G5 (h9 (Gq (⟨[BL false],[],G,O,⟨⟨_,O,.conv (.same O)⟩,G⟩,O,false,Eq.mpr (M5 h) hp,O⟩)))))
    ·
     refine Gr (h7 (Jr fun i0=>(JLh (.dptr [E1 c.Rows]) (G9 G09 O O O) O (JLh (E1 c.Rows) (Gh Yk O O O) O (JLl Gz O O O fun i1=>(JLm (I64 0) O (G5 (i0 (Gx ?_)))))))))
     obtain⟨i2,c7,c8,c1,h⟩:=Jy h
     refine Jc (fun i (j:(Jv Hh Int))=>each i2 c7 (List.drop i c.Rows) i j=some p) (fun i j=>[(3,.mp 1127),(8,.dptr [I64 c.Bay,E1 c.Rows]),(55,E7 s.Covers),(56,En s.Covers.length),(57,En t),(76,E1 c.Rows),(77,En c.Rows.length),(78,En i)]) (fun i j=>[(1127,MP 177 Hh.kv I64 j)]) (fun i=>c.Rows.length - i) 0 w h ⟨(.sm O O),⟨fmQ O,G⟩,rfl⟩ ?_
     clear h
     intro i j a6 k5 i3
     refine Jr fun c9=>(JLh (BL (decide ((i:Int) < (c.Rows.length:Int)))) (Qg O O O) O (G5 (c9 (Js fun d0=>Gn O (fun hb=>?_) (fun hb=>?_)))))
     ·
      have a7:=Qr hb
      obtain⟨d,k0,d1,d2,h⟩:=Ja a6 a7
      replace h:=G1d c8 h
      refine Gr (d0 (Js fun d3=>Gx (Jr fun d4=>(JLm (En i) O (JLh (.dptr [I64 d]) (Hg (f:=I64) (xs:=c.Rows) (y:=d) O O O Gz d1 O) O (JLh (I64 d) (Gh Gc O O O) O (JLm (En i) O (JLm (I64 d) O (G5 (d4 (Js fun d5=>?_)))))))))))
      refine Jr fun d6=>(JLm (I64 d) O (JLh (BL (decide (d < 0))) (Qg O O O) O (JLm (BL (decide (d < 0))) O (JLo (I64 d) [] O .scf G (fun hc=>G6 O O) O (JLo (BL (decide (30 < d))) [86] O .scf ⟨Ua,G⟩ (fun hc=>Gbe O O O) O (JLh (BL ((decide (d < 0))||(decide (30 < d)))) (G2f O O O O) O (JLm (BL ((decide (d < 0))||(decide (30 < d)))) O (JLo (En i) [] O .scf G (fun hc=>G6 O O) O (JLo (BL (decide (0 < (i:Int)))) [90] O .scf ⟨Ua,G⟩ (fun hc=>Gbe O O O) O (JLo (BL (decide (0 < (i:Int)))) [91] O .scf ⟨Ua,G⟩ (fun hc=>G6 O O) O (JLo (I64 d) [] O .optt G (fun hc=>G6 O O) O (JLo (.dptr [E1 c.Rows]) [] O .optt G (fun hc=>G9 G09 O O O) O (JLo (E1 c.Rows) [94] O .optt ⟨Ua,G⟩ (fun hc=>Gh Yk O O O) O ?_)))))))))))))
      refine JLo (En i) [] O .optt G (fun hc=>G6 O O) O ?_
      obtain⟨i4,d7,h⟩:=Ga h
      refine JLo (I64 i4) [96] O .optt ⟨Ua,G⟩ (fun hc=>H4d (H30 (H3 hc d7)) O O O) O ?_
      obtain⟨a0,d8,h⟩:=Ga h
      refine JLo (.dptr [I64 a0]) [95,97] O .optt ⟨Ua,Ua,G⟩ (fun hc=>(match Zn (H3 hc d8) with | ⟨_,hm_,hy_⟩=>Hg (f:=I64) (xs:=c.Rows) (y:=a0) O O O Gz hy_ hm_)) O (JLo (I64 a0) [98] O .optt ⟨Ua,G⟩ (fun hc=>Gh Gc O O O) O (JLo (BL (decide (d≤a0))) [93,99] O .optt ⟨Ua,Ua,G⟩ (fun hc=>J0b O O O) O (Gf (u:=BL ((decide (0 < (i:Int)))&&(decide (d≤a0)))) [(92,BL (decide (0 < (i:Int)))),(100,_)] O O O .scf ⟨.all id,.part,G⟩ (fun hc=>Ro O O O O) ?_)))
      refine JLh (BL (((decide (d < 0))||(decide (30 < d)))||((decide (0 < (i:Int)))&&(decide (d≤a0))))) (G2f O O O O) O (G5 (d6 (JCc O h (fun h hb=>?_) (fun h hb=>?_))))
      ·
       refine Jr fun d9=>(JLm (BL false) O (G5 (d9 (Gq (⟨[BL false],[],G,O,⟨⟨_,O,.conv (.same O)⟩,G⟩,O,false,Eq.mpr (M5 h) hp,O⟩)))))
      ·
       refine Gr (d5 (Qc (l':=[(3,.mp 1127),(8,.dptr [I64 c.Bay,E1 c.Rows]),(10,I64 d),(55,E7 s.Covers),(56,En s.Covers.length),(57,En t),(76,E1 c.Rows),(77,En c.Rows.length),(78,En i)]) (L':=[(1127,MP 177 Hh.kv I64 j)]) ⟨(.sm O O),⟨fmQ O,G⟩,rfl⟩ ?_))
       obtain⟨i5,a8,h⟩:=Ga h
       obtain⟨a1,a9,h⟩:=Je h
       refine J5 [7,9] [0,0,0,0,0,0,0,0,1,0] [0,0,0,0,0,1,1,0,1,0] [[(1127,MP 177 Hh.kv I64 j)],((1127,MI 177 Hh.kv I64 j (Hh.mk c.Bay d 2) 0)::[(1127,MP 177 Hh.kv I64 j)]),((1127,MP 177 Hh.kv I64 (Jv.put j (Hh.mk c.Bay d 2) a1))::((1127,MI 177 Hh.kv I64 j (Hh.mk c.Bay d 2) 0)::[(1127,MP 177 Hh.kv I64 j)]))] J0 (by kernel_rfl) rfl rfl ?_
       refine Gd (u:=.mp 1127) O O ⟨Ge (G6 O O) O,G⟩ (Gd (u:=.dptr [I64 c.Bay,E1 c.Rows]) O O ⟨Ge (G9 Gf0 O O O) O,G⟩ (Gd (u:=I64 c.Bay) O O ⟨Ge (Gh Gc O O O) O,G⟩ (Gd (u:=I64 d) O O ⟨Ge (G6 O O) O,G⟩ (Gd (u:=.agg [I64 c.Bay,I64 d,I64 2]) O O ⟨Ge (J91 (cs:=[I64 c.Bay,I64 d,I64 2]) [E0,E0,E0] Q75 Jfc O O) O,G⟩ (Gd (u:=I64 i5) O O ⟨Ge (((M5 a8) ▸ Qcd (av:=I64) (m:=j) (a:=(Hh.mk c.Bay d 2)) 0 E0 O O O O Jd0 Gd2 H50 O)) O,Ge (((M5 a8) ▸ Qcc (av:=I64) (m:=j) (a:=(Hh.mk c.Bay d 2)) 0 E0 O O O O Jd0 Gd2 H50 O)) O,G⟩ (Gd (u:=I64 a1) O O ⟨Ge (Jg a9 O O O) O,Ge (Jg a9 O O O) O,G⟩ (D_w (u:=.tup [.junk,I64 (G38 (Jv.l j) (Hh.mk c.Bay d 2):Int)]) O O O O (Ge (Q30 (m:=j) (a:=(Hh.mk c.Bay d 2)) 0 E0 O O O O Jd0 Gd2 H50 O) O) (Gd (u:=I64 (G38 (Jv.l j) (Hh.mk c.Bay d 2):Int)) O O ⟨Ge (H1 O O O) O,G⟩ (H8d (u:=.junk) O O O O (Ge (J69 (m:=j) (a:=(Hh.mk c.Bay d 2)) (v:=a1) 0 O O O O O O) O) (Qw ?_))))))))))
       refine d3 (G1 (JLh (I64 ((i+1:Nat):Int)) (Jg (J7 a7 i1) O O O) O (JLm (I64 ((i+1:Nat):Int)) O (G5 (i3 _ _ (i+1) (Jv.put j (Hh.mk c.Bay d 2) a1) (app1 d2 h) (by omega) ⟨(.sm O O),⟨fmQ O,G⟩,rfl⟩)))))
     ·
      have h:=app1 c1 (Jb a6 (Hs hb))
      refine Jf (h5 (G1 (JLh (I64 ((t+1:Nat):Int)) (Jg (J7 c0 g8) O O O) O (JLm (I64 ((t+1:Nat):Int)) O (G5 (j9 _ _ (t+1) j (app1 h4 h) (by omega) ⟨(.sm O O),⟨fmQ O,G⟩,rfl⟩))))))
   ·
    have h:=app1 c6 (Jb b9 (Hs hb))
    refine Jf (g6 (Js fun e0=>Jr fun e1=>(JLm (.mp 1127) O (JLh (.it 1128) (Yc2 1128 (m:=w) O O O O Gd2) O (G5 (e1 (Gx ?_)))))))
    obtain⟨i6,e2,e3,c2,h⟩:=H2f h
    refine J34 (Jv.size w) (fun x (a2:Unit)=>MInv i6 e2 (Jv.l w) x a2) (fun x a2=>[(115,.it 1128)]) (fun x a2=>[(1127,MP 177 Hh.kv I64 w),(1128,.iter (.mp 1127) (Jv.size w) x)]) () (MInv.start h hp) ⟨⟨.same O,G⟩,⟨⟨_,O,.map⟩,⟨_,O,.iter O⟩,G⟩,O⟩ ?_
    clear h hp
    intro x a2 b0 k6 i7
    refine Jr fun b1=>Zu O O O (Yfa (m:=w) O O O O) ?_
    intro u_ L_ hn_
    rcases hn_ with ⟨c3,z,a3,b2,rfl,rfl⟩ | ⟨e4,rfl,rfl⟩
    ·
     obtain⟨k7,h,b3,b4⟩:=b0.step a3 b2
     replace h:=Qa7 e3 h
     refine JLh (BL true) (H1 O O O) O (G5 (b1 (Js fun e5=>J35 O (Gr (e5 (Gx (Jr fun e6=>(JLh (.tup [.agg (Hh.cs z.1),I64 z.2]) (Ycb (kv:=Hh.kv) (av:=I64) (m:=w) (q:=c3) (seen:=x) (e:=z) O O O O a3) O (JLh (I64 z.2) (H1 O O O) O (JLm (I64 z.2) O (G5 (e6 (Jr fun e7=>(JLm (I64 z.2) O (JLh (BL (decide (1 < z.2))) (Gbe O O O) O (G5 (e7 (JCc O h (fun h hb=>?_) (fun h hb=>?_)))))))))))))))))))
     ·
      refine Jr fun e8=>(JLm (BL false) O (G5 (e8 (Gq ?_))))
      obtain⟨y_,hy_,hl_⟩:=Y30 h
      exact⟨[BL false],[],G,O,⟨⟨_,O,.conv (.same O)⟩,G⟩,O,false,Eq.mpr (M5 hl_) (b3 y_ hy_),O⟩
     ·
      refine Gr (i7 _ _ (x++[c3]) () (b4 _ (M5 h).symm) (Gaa (M3 a3).1 b2) ⟨⟨.same O,G⟩,⟨⟨_,O,.map⟩,⟨_,O,.iter O⟩,G⟩,O⟩)
    ·
     obtain⟨p_,h,hp⟩:=b0.done e4
     replace h:=app1 c2 h
     refine JLh (BL false) (H1 O O O) O (G5 (b1 (Js fun k1=>G2e O (Jf (e0 (Jr fun e9=>(JLm (BL true) O (G5 (e9 (Gq (⟨[BL true],[],G,O,⟨⟨_,O,.conv (.same O)⟩,G⟩,O,true,Eq.mpr (M5 h) hp,O⟩)))))))))))
theorem Qc0 (S_:(Gk)→Option Bool) (hS_:∀ s r,S_ s=some r→∃ p:Prop,Gfd s (fun r_=>r_=r)=some p∧p) (s:Gk) (r:Bool) (h:S_ s=some r):Pure Eo 71 [.agg (Gk.cs s)] (·=BL r):=by
 obtain⟨p,a,b⟩:=hS_ s r h
 exact(Qbf s _ p a b).monoP (fun av hh=>by obtain⟨r_,rfl,ha⟩:=hh; exact ha)

def G4d (size:Int):Option (List Int):=
 bif decide (size=40) then
 (some [0])
 else
 (bif decide (size=20) then
  (some [1,2])
  else
  (some []))
theorem J03 (size:Int) (r:(List Int)) (h:G4d size=some r):Pure Eo 114 [U8 size] (·=Ea r):=by
 unfold G4d at h
 refine H0 [.tmp 2] Tryz.func114 O O (Jr fun a=>(JLh (Ea ([]:List Int)) (Hm 1 O O) O (G5 (a (Js fun b=>Jr fun c=>(JLm (U8 size) O (G5 (c (Gx (Jr fun d=>(JLh (BL (decide (size=40))) (Q0 O O O) O (JLm (BL (decide (size=40))) O (G5 (d (JCc O h (fun h hb=>?_) (fun h hb=>?_))))))))))))))))
 ·
  refine Jr fun e=>(JLh (Ea [0]) (H9 (xs:=[U8 0]) O ⟨O,O,G⟩ Gab Q51 O O O O) O (JLm (Ea [0]) O (G5 (e (Gq (fin1 (fun r:(List Int)=>(Ea r:AV)) h))))))
 ·
  refine Jr fun f=>(JLh (BL (decide (size=20))) (Q0 O O O) O (JLm (BL (decide (size=20))) O (G5 (f (JCc O h (fun h hb=>?_) (fun h hb=>?_))))))
  ·
   refine Jr fun g=>(JLh (Ea [1,2]) (H9 (xs:=[U8 1,U8 2]) O ⟨O,O,O,O,G⟩ Gab Q51 O O O O) O (JLm (Ea [1,2]) O (G5 (g (Gq (fin1 (fun r:(List Int)=>(Ea r:AV)) h))))))
  ·
   refine Gr (b (Jr fun i=>(JLh (Ea ([]:List Int)) (Hm 1 O O) O (G5 (i (Gq (fin1 (fun r:(List Int)=>(Ea r:AV)) h)))))))

def Gfb (j:Gk) (k:Int) (ys_:List Slot):Option Unit:=
 each (fun e l (b:Nat) f=>
  need (decide ((max e.Tiers 0)≤9223372036854775807)) <|
  upto (fun m (c:Nat) g=>
   bnd (G4d k) fun h=>
   each (fun i n (a:Nat) d=>
    need (decide (ys_[a]? = some (Slot.mk (l:Int) (m:Int) i))) <|
    d (a+1))
   (fun(a:Nat)=>
    g a) h 0 c)
  (fun(c:Nat)=>
   f c) (max e.Tiers 0).toNat 0 b)
 (fun(b:Nat)=>
  need (decide (b=ys_.length)) (some ())) j.Columns 0 0
theorem Je9 (e:Gk) (m:Int) (ys_:List Slot) (q_:Unit) (h:Gfb e m ys_=some q_):Iter Eo 153 [.dptr (Gk.cs e),.dptr [U8 m]] (ys_.map (fun y:Slot=>[.agg [I64 y.G2,I64 y.Tier,U8 y.Half]])):=by
 unfold Gfb at h
 refine Y41 Tryz.func153 O O ?_
 intro E hE hys
 refine Rj (fun K1 b9=>Qh (J2 (u:=Ef e) hE (G9 Hv O O O) ?_ O O O O))
 refine J2 (u:=E3 e.Columns) hE (Gh J9 O O O) ?_ O O O O
 refine Qc6 hE (f:=G2.av) (xs:=e.Columns) Ht O O (fun w=>?_) O O O
 refine J2 (u:=I64 0) hE (G6 O O) ?_ O O O O
 refine Rh ?_
 refine b9 _ _ _ (G47 ?_)
 obtain⟨b2,c0,c1,z,h⟩:=Jy h
 refine Jc4 (fun a (n:Nat)=>each b2 c0 (List.drop a e.Columns) a n=some q_) (fun a n=>[(0,.sc (.func (.yield E.lp) #[] #[])),(2,.dptr [U8 m]),(10,E3 e.Columns),(11,En e.Columns.length),(12,En a)]) (fun a n=>[]) (fun a n=>n) (fun a=>e.Columns.length - a) 0 0 h ⟨(.sm O O),G,rfl⟩ rfl ?_
 clear h
 intro a n r K2 e2
 refine Rj (fun K3 c2=>Qh (J2 (u:=BL (decide ((a:Int) < (e.Columns.length:Int)))) hE (Qg O O O) ?_ O O O O))
 refine Rh ?_
 refine c2 _ _ _ (Rj (fun K4 c3=>J4e O (fun hb=>?_) (fun hb=>?_)))
 ·
  have s:=Qr hb
  obtain⟨g,e1,c4,c5,h⟩:=Ja r s
  replace h:=G1d c1 h
  refine Gcf (c3 _ _ _ (Rj (fun K5 c6=>G47 (Rj (fun K6 c7=>Qh (J2 (u:=En a) hE (G6 O O) ?_ O O O O))))))
  refine J2 (u:=Ei g) hE (Hg (f:=G2.av) (xs:=e.Columns) (y:=g) O O O Ht c4 O) ?_ O O O O
  refine J2 (u:=.agg (G2.cs g)) hE (Gj G7c O O O) ?_ O O O O
  refine J2 (u:=.ptr 1191 0) hE (Hq 1191 12 G35 O O) ?_ O O O O
  refine J2 (u:=En a) hE (G7 O O) ?_ O O O O
  refine Y3e (u:=.junk) hE (Hc (u:=.agg (G2.cs g)) (ds:=(G2.cs g)) Hd2 O O O O O O O O) ?_ O O O
  refine Rh ?_
  refine c7 _ _ _ (Rj (fun K7 c8=>Qh (J2 (u:=.ptr 1191 3) hE (Hi H1e O O) ?_ O O O O)))
  refine J2 (u:=I64 g.Tiers) hE (Hx Gc O O O O) ?_ O O O O
  refine J2 (u:=I64 (max g.Tiers 0)) hE (Z10 O O O) ?_ O O O O
  refine J2 (u:=I64 0) hE (G6 O O) ?_ O O O O
  refine Rh ?_
  refine c8 _ _ _ (G47 ?_)
  obtain⟨c9,h⟩:=J8 h
  obtain⟨b8,d0,d1,a0,h⟩:=R21 h
  refine Jc4 (fun c (l:Nat)=>upto b8 d0 ((max g.Tiers 0).toNat - c) c l=some q_) (fun c l=>[(0,.sc (.func (.yield E.lp) #[] #[])),(2,.dptr [U8 m]),(4,En a),(10,E3 e.Columns),(11,En e.Columns.length),(12,En a),(19,I64 (max g.Tiers 0)),(20,En c)]) (fun c l=>[(1191,.box 58 (G2.cs g))]) (fun c l=>l) (fun c=>(max g.Tiers 0).toNat - c) 0 n h ⟨(.sm O O),⟨fbQ O (.sm O O),G⟩,rfl⟩ rfl ?_
  clear h
  intro c l t K8 e8
  refine Rj (fun K9 d2=>Qh (J2 (u:=BL (decide ((c:Int) < (max g.Tiers 0)))) hE (Qg O O O) ?_ O O O O))
  refine Rh ?_
  refine d2 _ _ _ (Rj (fun e3 a1=>J4e O (fun hb=>?_) (fun hb=>?_)))
  ·
   have v:=Q91 hb
   obtain⟨e4,d3,h⟩:=Q4c t v
   replace h:=Qa7 d1 h
   refine Gcf (a1 _ _ _ (Rj (fun e5 a2=>G47 (Rj (fun e6 a3=>Qh (J2 (u:=En c) hE (G6 O O) ?_ O O O O))))))
   refine J2 (u:=En c) hE (G7 O O) ?_ O O O O
   refine Rh ?_
   refine a3 _ _ _ (Rj (fun e7 a4=>Qh (J2 (u:=U8 m) hE (Gh Ho O O O) ?_ O O O O)))
   obtain⟨i,a5,h⟩:=Ga h
   refine J2 (u:=Ea i) hE (Gt O (J03 m i a5) Q08 ⟨O,O,G⟩) ?_ O O O O
   refine Qc6 hE (f:=U8) (xs:=i) Gab O O (fun a6=>?_) O O O
   refine J2 (u:=I64 0) hE (G6 O O) ?_ O O O O
   refine Rh ?_
   refine a4 _ _ _ (G47 ?_)
   obtain⟨d4,a7,a8,q,h⟩:=Jy h
   refine Jc4 (fun d (k:Nat)=>each d4 a7 (List.drop d i) d k=some q_) (fun d k=>[(0,.sc (.func (.yield E.lp) #[] #[])),(2,.dptr [U8 m]),(4,En a),(6,En c),(10,E3 e.Columns),(11,En e.Columns.length),(12,En a),(19,I64 (max g.Tiers 0)),(20,En c),(24,Ea i),(25,En i.length),(26,En d)]) (fun d k=>[(1191,.box 58 (G2.cs g))]) (fun d k=>k) (fun d=>i.length - d) 0 l h ⟨(.sm O O),⟨fbQ O (.sm O O),G⟩,rfl⟩ rfl ?_
   clear h
   intro d k o e9 d5
   refine Rj (fun f0 a9=>Qh (J2 (u:=BL (decide ((d:Int) < (i.length:Int)))) hE (Qg O O O) ?_ O O O O))
   refine Rh ?_
   refine a9 _ _ _ (Rj (fun f1 b0=>J4e O (fun hb=>?_) (fun hb=>?_)))
   ·
    have p:=Qr hb
    obtain⟨j,e0,b1,b3,h⟩:=Ja o p
    replace h:=G1d a8 h
    refine Gcf (b0 _ _ _ (Rj (fun f2 b4=>G47 (Rj (fun f3 b5=>Qh (J2 (u:=.dptr [U8 j]) hE (Hg (f:=U8) (xs:=i) (y:=j) O O O Gab b1 O) ?_ O O O O))))))
    refine J2 (u:=U8 j) hE (Gh Ho O O O) ?_ O O O O
    refine J2 (u:=U8 j) hE (G7 O O) ?_ O O O O
    refine Rh ?_
    refine b5 _ _ _ (Rj (fun f4 b6=>Qh (J2 (u:=.sc (.func (.yield E.lp) #[] #[])) hE (G6 O O) ?_ O O O O)))
    refine J2 (u:=En a) hE (G6 O O) ?_ O O O O
    refine J2 (u:=En c) hE (G6 O O) ?_ O O O O
    refine J2 (u:=U8 j) hE (G6 O O) ?_ O O O O
    refine J2 (u:=.agg [En a,En c,U8 j]) hE (Hb (cs:=[En a,En c,U8 j]) [(0,1),(1,1),(2,1)] [I64 0,I64 0,U8 0] [E0,E0,.int .u8 0] Gac Gd1 (zzQ O) O O) ?_ O O O O
    obtain⟨b7,h⟩:=J8 h
    refine Hcb (us:=[.agg [En a,En c,U8 j]]) hE O O ⟨O,O,G⟩ (Rb1 (f:=(fun y:Slot=>[.agg [I64 y.G2,I64 y.Tier,U8 y.Half]])) (x:=(Slot.mk (a:Int) (c:Int) j)) hys b7) ?_ O O O
    refine J2 (u:=BL false) hE (Qx (b:=true) O O) ?_ O O O O
    refine Rh ?_
    refine b6 _ _ _ (H3e O (Gcf (b4 _ _ _ (Qh (J2 (u:=I64 ((d+1:Nat):Int)) hE (Jg (J7 p a6) O O O) ?_ O O O O)))))
    refine J2 (u:=I64 ((d+1:Nat):Int)) hE (G6 O O) ?_ O O O O
    refine Rh ?_
    exact d5 _ _ (d+1) (k+1) _ (app1 b3 h) (by omega) ⟨(.sm O O),⟨fbQ O (.sm O O),G⟩,rfl⟩ rfl
   ·
    have h:=app1 q (Jb o (Hs hb))
    refine Hfb (a2 _ _ _ (Qh (J2 (u:=I64 ((c+1:Nat):Int)) hE (Jg (J7 v (Jcf c9)) O O O) ?_ O O O O)))
    refine J2 (u:=I64 ((c+1:Nat):Int)) hE (G6 O O) ?_ O O O O
    refine Rh ?_
    exact e8 _ _ (c+1) k _ (app1 d3 h) (by omega) ⟨(.sm O O),⟨fbQ O (.sm O O),G⟩,rfl⟩ rfl
  ·
   have h:=app1 a0 (Q4d t (He8 hb))
   refine Hfb (c6 _ _ _ (Qh (J2 (u:=I64 ((a+1:Nat):Int)) hE (Jg (J7 s w) O O O) ?_ O O O O)))
   refine J2 (u:=I64 ((a+1:Nat):Int)) hE (G6 O O) ?_ O O O O
   refine Rh ?_
   exact e2 _ _ (a+1) l _ (app1 c5 h) (by omega) ⟨(.sm O O),G,rfl⟩ rfl
 ·
  have h:=app1 z (Jb r (Hs hb))
  refine Hfb (Y1b (J8 h).1)
theorem Jea (S_:(Gk)→(Int)→Option (List Slot)) (hS_:∀ a b r,S_ a b=some r→Gfb a b r=some ()) (a:Gk) (b:Int) (r:List Slot) (h:S_ a b=some r):Iter Eo 153 [.dptr (Gk.cs a),.dptr [U8 b]] (r.map (fun y:Slot=>[.agg [I64 y.G2,I64 y.Tier,U8 y.Half]])):=Je9 a b r () (hS_ a b r h)
end
end Go.Proofs.YtidpfkmbfgihlaaGreat
