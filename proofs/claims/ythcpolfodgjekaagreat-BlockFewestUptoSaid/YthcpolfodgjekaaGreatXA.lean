/-
 Models of functions of the program,and that they return what the models say.
-/
import Derived.Test.YthcpolfodgjekaaGreatSortLay
import Derived.Test.YthcpolfodgjekaaGreatLent
set_option maxRecDepth 100000
set_option maxHeartbeats 1000000
set_option linter.unusedVariables false
set_option linter.unusedSimpArgs false
namespace Go.Proofs.YthcpolfodgjekaaGreat
open Go.RowKit
noncomputable section
abbrev Ej:=Tryz.prog
structure Hw where
 n:Int
 low:Int
 high:Int
 deriving DecidableEq,Inhabited
def Hw.cs (x:Hw):List AV:=[I64 x.n,I64 x.low,I64 x.high]
def Hw.av (x:Hw):AV:=.agg x.cs
structure G3 where
 Bay:Int
 Row:Int
 Deck:Bool
 Tiers:Int
 Height:Int
 Kilos20:Int
 Kilos40:Int
 Lash:Int
 Plugs:List Int
 X:Int
 Y:Int
 Z:Int
 deriving DecidableEq,Inhabited
def G3.cs (x:G3):List AV:=[I64 x.Bay,I64 x.Row,BL x.Deck,I64 x.Tiers,I64 x.Height,I64 x.Kilos20,I64 x.Kilos40,I64 x.Lash,E1 x.Plugs,I64 x.X,I64 x.Y,I64 x.Z]
def G3.av (x:G3):AV:=.agg x.cs
abbrev Ed (x:G3):AV:=.dptr (G3.cs x)
abbrev E5:=LS 12 G3.av
structure G8 where
 Bay:Int
 Rows:List Int
 deriving DecidableEq,Inhabited
def G8.cs (x:G8):List AV:=[I64 x.Bay,E1 x.Rows]
def G8.av (x:G8):AV:=.agg x.cs
abbrev E6:=LS 2 G8.av
structure Light where
 Kilos:Int
 X:Int
 Y:Int
 Z:Int
 deriving DecidableEq,Inhabited
def Light.cs (x:Light):List AV:=[I64 x.Kilos,I64 x.X,I64 x.Y,I64 x.Z]
structure Row where
 Draught:Int
 Kilos:Int
 Buoy:Int
 Metacentre:Int
 J04:Int
 deriving DecidableEq,Inhabited
def Row.cs (x:Row):List AV:=[I64 x.Draught,I64 x.Kilos,I64 x.Buoy,I64 x.Metacentre,I64 x.J04]
def Row.av (x:Row):AV:=.agg x.cs
abbrev E8:=LS 5 Row.av
structure Frame where
 X:Int
 Light:Int
 Share:Int
 Shear:Int
 Bend:Int
 deriving DecidableEq,Inhabited
def Frame.cs (x:Frame):List AV:=[I64 x.X,I64 x.Light,I64 x.Share,I64 x.Shear,I64 x.Bend]
def Frame.av (x:Frame):AV:=.agg x.cs
abbrev E7:=LS 5 Frame.av
structure Gf where
 Kilos:Int
 X:Int
 Y:Int
 Z:Int
 Surface:Int
 Steps:List Int
 deriving DecidableEq,Inhabited
def Gf.cs (x:Gf):List AV:=[I64 x.Kilos,I64 x.X,I64 x.Y,I64 x.Z,I64 x.Surface,E1 x.Steps]
def Gf.av (x:Gf):AV:=.agg x.cs
abbrev Eh (x:Gf):AV:=.dptr (Gf.cs x)
abbrev E9:=LS 6 Gf.av
structure G1 where
 Tolerance:Int
 Trim:Int
 List_:Int
 Stability:Int
 deriving DecidableEq,Inhabited
def G1.cs (x:G1):List AV:=[I64 x.Tolerance,I64 x.Trim,I64 x.List_,I64 x.Stability]
structure H0 where
 Columns:List G3
 Covers:List G8
 Light:Light
 Rows:List Row
 Frames:List Frame
 Tanks:List Gf
 G1:G1
 deriving DecidableEq,Inhabited
def H0.cs (x:H0):List AV:=[E5 x.Columns,E6 x.Covers,I64 x.Light.Kilos,I64 x.Light.X,I64 x.Light.Y,I64 x.Light.Z,E8 x.Rows,E7 x.Frames,E9 x.Tanks,I64 x.G1.Tolerance,I64 x.G1.Trim,I64 x.G1.List_,I64 x.G1.Stability]
abbrev Eb (x:H0):AV:=.dptr (H0.cs x)
structure Hn where
 e0:Int
 e1:Int
 e2:Int
 deriving DecidableEq,Inhabited
def Hn.cs (x:Hn):List AV:=[I64 x.e0,I64 x.e1,I64 x.e2]
def Hn.ks (x:Hn):List Value:=[.int .i64 x.e0,.int .i64 x.e1,.int .i64 x.e2]
def Hn.kv (x:Hn):Value:=.agg x.ks.toArray
structure Slot where
 G3:Int
 Tier:Int
 Half:Int
 deriving DecidableEq,Inhabited
def Slot.cs (x:Slot):List AV:=[I64 x.G3,I64 x.Tier,U8 x.Half]
def Slot.av (x:Slot):AV:=.agg x.cs
abbrev Eg (x:Slot):AV:=.dptr (Slot.cs x)
abbrev E4:=LS 3 Slot.av
namespace XAF
theorem Y81 (a b:Hn):Ha1 Ej 4 155 [.int .i64 a.e0,.int .i64 a.e1,.int .i64 a.e2] [.int .i64 b.e0,.int .i64 b.e1,.int .i64 b.e2]=some (decide (a=b)):=by
 refine(show _=some ((a.e0==b.e0)&&((a.e1==b.e1)&&((a.e2==b.e2)&&true))) by kernel_rfl).trans (congrArg some ?_)
 rw [Bool.eq_iff_iff]
 simp only [Kq,beq_iff_eq,Kr,Bool.and_true]
 constructor
 ·intro h; obtain⟨_,_,_⟩:=a; obtain⟨_,_,_⟩:=b; simp_all
 ·intro h; subst h; simp
theorem R7e:Gff Ej 196 3=true:=by kernel_rfl
theorem Y6:Gff Ej 64 12=true:=by kernel_rfl
theorem Z0:Gff Ej 66 2=true:=by kernel_rfl
theorem Q1d:Y5b Ej 155 3 1=true:=by kernel_rfl
theorem R09:Hf Ej 113=true:=by kernel_rfl
theorem Jc1:Hf Ej 115=true:=by kernel_rfl
theorem Jb7:Hf Ej 157=true:=by kernel_rfl
theorem He2:Qi Ej 196 0 0=true:=by kernel_rfl
theorem Jfc:Qi Ej 196 1 1=true:=by kernel_rfl
theorem Jfb:Qi Ej 196 2 2=true:=by kernel_rfl
theorem Hh:Qi Ej 32 0 0=true:=by kernel_rfl
theorem Jg:Qi Ej 32 1 1=true:=by kernel_rfl
theorem G26:Qi Ej 64 0 0=true:=by kernel_rfl
theorem G25:Qi Ej 64 1 1=true:=by kernel_rfl
theorem Gec:Qi Ej 64 10 10=true:=by kernel_rfl
theorem Geb:Qi Ej 64 11 11=true:=by kernel_rfl
theorem Ro:Qi Ej 64 2 2=true:=by kernel_rfl
theorem Zn:Qi Ej 64 3 3=true:=by kernel_rfl
theorem G45:Qi Ej 64 4 4=true:=by kernel_rfl
theorem H18:Qi Ej 64 5 5=true:=by kernel_rfl
theorem H17:Qi Ej 64 6 6=true:=by kernel_rfl
theorem H16:Qi Ej 64 7 7=true:=by kernel_rfl
theorem Rn:Qi Ej 64 8 8=true:=by kernel_rfl
theorem H15:Qi Ej 64 9 9=true:=by kernel_rfl
theorem G06:Qi Ej 66 0 0=true:=by kernel_rfl
theorem Qf:Qi Ej 66 1 1=true:=by kernel_rfl
theorem Gd4:Gf0 Ej 154 155 3=true:=by kernel_rfl
theorem Jb:Ej.follows .mixedOrders=true:=by kernel_rfl
theorem Zm:placesOf Ej 196=some [(0,1),(1,1),(2,1)]:=by kernel_rfl
theorem G79:placesOf Ej 71=some [(0,1),(1,1),(2,1)]:=by kernel_rfl
theorem Ho:Z1 Ej 22=true:=by kernel_rfl
theorem Jv:Z1 Ej 23=true:=by kernel_rfl
theorem Gb:Z1 Ej 3=true:=by kernel_rfl
theorem Qv:Z1 Ej 4=true:=by kernel_rfl
theorem J1:Z1 Ej 40=true:=by kernel_rfl
theorem J6:Z1 Ej 5=true:=by kernel_rfl
theorem Qe6:Zf Ej 196 3=true:=by kernel_rfl
theorem Gd3:Zf Ej 64 12=true:=by kernel_rfl
theorem Gd2:Zf Ej 66 2=true:=by kernel_rfl
theorem Gaa:sliceB Ej 158 5 1=true:=by kernel_rfl
theorem H38:sliceB Ej 194 196 3=true:=by kernel_rfl
theorem H6:sliceB Ej 22 64 12=true:=by kernel_rfl
theorem Hq:sliceB Ej 23 66 2=true:=by kernel_rfl
theorem Gn:sliceB Ej 40 3 1=true:=by kernel_rfl
theorem Jb2:(Ej.info? 155).bind (fun i=>i.zero.map Value.cells)=some (List.toArray [E0,E0,E0]):=by kernel_rfl
theorem G2b:(Ej.info? 196).bind (fun i=>i.zero.map Value.cells)=some (List.toArray [E0,E0,E0]):=by kernel_rfl
theorem Gd1:(Ej.info? 71).bind (fun i=>i.zero.map Value.cells)=some (List.toArray [E0,E0,.int .u8 0]):=by kernel_rfl
theorem Hb2:G05 Ej 196 3=true:=by kernel_rfl
theorem Jf7:G05 Ej 5 1=true:=by kernel_rfl
theorem G76:G05 Ej 64 12=true:=by kernel_rfl
theorem G75:G05 Ej 66 2=true:=by kernel_rfl
theorem Hb1:(Ej.info? 3).bind (·.zero)=some E0:=by kernel_rfl
theorem J91:H83 Ej 155 Hn.kv:=H83.of_eq Hn.ks (by kernel_rfl) (fun a b h=>by simp only [Hn.ks,List.cons.injEq,Value.int.injEq,Value.bool.injEq,Value.string.injEq,true_and,and_true] at h; obtain⟨_,_,_⟩:=a; obtain⟨_,_,_⟩:=b; simp_all) 4 (by decide) (fun a b=>Y81 a b) (fun a=>by kernel_rfl) (fun a=>by simp [Instr.sameBits,Hn.ks])
end XAF
open XAF

def G73 (l:List Hw):Option Bool:=
 each (fun y18 i18 (s18:Unit) nx18=>
  bif ((decide (y18.n < y18.low))||(decide (y18.high < y18.n))) then
  (some false)
  else
  (nx18 ()))
 (fun(s18:Unit)=>
  some true) l 0 ()
theorem Ha8 (l:List Hw) (r:Bool) (h:G73 l=some r):Pure Ej 157 [LS 3 Hw.av l] (·=BL r):=by
 unfold G73 at h
 refine Gy [.tmp 2] Tryz.func157 O O (Jr fun hK1=>(JLm (BL false) O (G7 (hK1 (Js fun hK2=>Jr fun hK3=>(JLm (LS 3 Hw.av l) O (JLl H38 O O O fun hm6=>(JLm (I64 0) O (G7 (hK3 (Gp ?_)))))))))))
 obtain⟨b18,kx18,hb18,hkx18,h⟩:=Hv h
 refine Hc (fun i18 (s18:Unit)=>each b18 kx18 (List.drop i18 l) i18 s18=some r) (fun i18 s18=>[(5,LS 3 Hw.av l),(6,Ei l.length),(7,Ei i18)]) (fun i18 s18=>[]) (fun i18=>l.length - i18) 0 () h ⟨(.sm O O),G,O⟩ ?_
 clear h
 intro i18 s18 hi18 K18 e18
 refine Jr fun hK19=>(JLh (BL (decide ((i18:Int) < (l.length:Int)))) (Hy O O O) O (G7 (hK19 (Js fun hK20=>Gj O (fun hb=>?_) (fun hb=>?_)))))
 ·
  have hk18:=J8 hb
  obtain⟨y18,nx18,hy18,hn18,h⟩:=Hj hi18 hk18
  replace h:=R8 hb18 h
  refine Gm (hK20 (Js fun hK21=>Gp (Jr fun hK22=>(JLh (.dptr [I64 y18.n,I64 y18.low,I64 y18.high]) (Gv (f:=Hw.av) (xs:=l) (y:=y18) O O O H38 hy18 O) O (JLh (.agg [I64 y18.n,I64 y18.low,I64 y18.high]) (Gg R7e O O O) O (JLh (.ptr 1205 0) (Jn 1205 3 Hb2 O O) O (Je (u:=.junk) (J5 (u:=.agg [I64 y18.n,I64 y18.low,I64 y18.high]) (ds:=[I64 y18.n,I64 y18.low,I64 y18.high]) Qe6 O O O O O O O O) (G7 (hK22 (Gr [(4,.dptr [I64 y18.n,I64 y18.low,I64 y18.high]),(5,LS 3 Hw.av l),(6,Ei l.length),(7,Ei i18)] [] 1205 rfl rfl rfl G rfl (by repeat' (first | exact .ptr | constructor)) ?_))))))))))
  refine Jr fun hK23=>(JLh (.dptr [I64 y18.n,I64 y18.low,I64 y18.high]) (Ga He2 O O O) O (JLh (I64 y18.n) (Ge Gb O O O) O (JLh (.dptr [I64 y18.low,I64 y18.high]) (Ga Jfc O O O) O (JLh (I64 y18.low) (Ge Gb O O O) O (JLh (BL (decide (y18.n < y18.low))) (Hy O O O) O (JLm (BL (decide (y18.n < y18.low))) O (JLo (.dptr [I64 y18.n,I64 y18.low,I64 y18.high]) [] O .scf G (fun hc=>Ga He2 O O O) O (JLo (I64 y18.n) [17] O .scf ⟨Ua,G⟩ (fun hc=>Ge Gb O O O) O (JLo (.dptr [I64 y18.high]) [] O .scf G (fun hc=>Ga Jfb O O O) O (JLo (I64 y18.high) [19] O .scf ⟨Ua,G⟩ (fun hc=>Ge Gb O O O) O (JLo (BL (decide (y18.high < y18.n))) [18,20] O .scf ⟨Ua,Ua,G⟩ (fun hc=>G41 O O O) O (JLh (BL ((decide (y18.n < y18.low))||(decide (y18.high < y18.n)))) (Rs O O O O) O (G7 (hK23 ?_))))))))))))))
  refine JCc O h ?_ ?_<;>intro h hb
  ·
   refine Jr fun hK24=>(JLm (BL false) O (G7 (hK24 (Gq (fin1 BL h)))))
  ·
   refine Gm (hK21 (G2 (JLh (I64 ((i18+1:Nat):Int)) (Ht (Hb hk18 hm6) O O O) O (JLm (I64 ((i18+1:Nat):Int)) O (G7 (e18 _ _ (i18+1) () (app1 hn18 h) (by omega) ⟨(.sm O O),G,rfl⟩))))))
 ·
  have h:=app1 hkx18 (Hk hi18 (H3 hb))
  refine Hi (hK2 (Jr fun hK25=>(JLm (BL true) O (G7 (hK25 (Gq (fin1 BL h)))))))

def Gb3 (c:G3):Option Bool:=
 each (fun y27 i27 (s27:Unit) nx27=>
  wrp (c.Tiers - 1) fun v33=>
  bnd (G73 [(Hw.mk y27 0 v33)]) fun r34=>
  bnd (bif ((!(!r34))&&(decide (0 < (i27:Int)))) then some (IntKind.i64.wrap ((i27:Int) - 1)) else some 0) fun v35=>
  bnd (bif ((!(!r34))&&(decide (0 < (i27:Int)))) then Qm c.Plugs v35 some else some default) fun y36=>
  bif ((!r34)||((decide (0 < (i27:Int)))&&(decide (y27≤y36)))) then
  (some false)
  else
  (nx27 ()))
 (fun(s27:Unit)=>
  bnd (G73 [(Hw.mk c.Bay 0 39),(Hw.mk c.Row 0 30),(Hw.mk c.Tiers 1 10),(Hw.mk c.Height 0 40000),(Hw.mk c.Kilos20 0 500000000),(Hw.mk c.Kilos40 0 500000000),(Hw.mk c.Lash 0 1000000000000),(Hw.mk c.X (-500000) 500000),(Hw.mk c.Y (-500000) 500000),(Hw.mk c.Z (-500000) 500000)]) fun r39=>
  some r39) c.Plugs 0 ()
abbrev Ek (c:G3):List AV:=[I64 c.Tiers,I64 c.Height,I64 c.Kilos20,I64 c.Kilos40,I64 c.Lash,E1 c.Plugs,I64 c.X,I64 c.Y,I64 c.Z]
theorem Q58 (c:G3) (r:Bool) (h:Gb3 c=some r):Pure Ej 113 [.agg (G3.cs c)] (·=BL r):=by
 unfold Gb3 at h
 refine Gy [.tmp 2] Tryz.func113 O O (Jr fun hK1=>(JLh (.ptr 1180 0) (J7 (cs:=(G3.cs c)) 1180 O O O O O) O (JLm (BL false) O (G7 (hK1 (Gr [(1,Ed c)] [] 1180 rfl rfl rfl G rfl (by exact⟨.ptr,G⟩) (Jr fun hK2=>(JLm (.fn 157 []) O (G7 (hK2 (Js fun hK3=>Jr fun hK4=>(JLh (.dptr [E1 c.Plugs,I64 c.X,I64 c.Y,I64 c.Z]) (Ga Rn O O O) O (JLh (E1 c.Plugs) (Ge J1 O O O) O (JLl Gn O O O fun hm8=>(JLm (I64 0) O (G7 (hK4 (Gp ?_))))))))))))))))))
 obtain⟨b27,kx27,hb27,hkx27,h⟩:=Hv h
 refine Hc (fun i27 (s27:Unit)=>each b27 kx27 (List.drop i27 c.Plugs) i27 s27=some r) (fun i27 s27=>[(1,Ed c),(3,.fn 157 []),(7,E1 c.Plugs),(8,Ei c.Plugs.length),(9,Ei i27)]) (fun i27 s27=>[]) (fun i27=>c.Plugs.length - i27) 0 () h ⟨(.sm O O),G,rfl⟩ ?_
 clear h
 intro i27 s27 hi27 K27 e27
 refine Jr fun hK28=>(JLh (BL (decide ((i27:Int) < (c.Plugs.length:Int)))) (Hy O O O) O (G7 (hK28 (Js fun hK29=>Gj O (fun hb=>?_) (fun hb=>?_)))))
 ·
  have hk27:=J8 hb
  obtain⟨y27,nx27,hy27,hn27,h⟩:=Hj hi27 hk27
  replace h:=R8 hb27 h
  refine Gm (hK29 (Js fun hK30=>Gp (Jr fun hK31=>(JLm (Ei i27) O (JLh (.dptr [I64 y27]) (Gv (f:=I64) (xs:=c.Plugs) (y:=y27) O O O Gn hy27 O) O (JLh (I64 y27) (Ge Gb O O O) O (JLm (Ei i27) O (JLm (I64 y27) O (G7 (hK31 (Jr fun hK32=>(JLm (.fn 157 []) O (JLm (I64 y27) O (JLh (.dptr (Ek c)) (Ga Zn O O O) O (JLh (I64 c.Tiers) (Ge Gb O O O) O ?_)))))))))))))))
  obtain⟨v33,hv33,h⟩:=Y43 h
  refine JLh (I64 v33) (Ge4 hv33 O O O) O (JLh (.agg [I64 y27,I64 0,I64 v33]) (Jk (cs:=[I64 y27,I64 0,I64 v33]) [(0,1),(1,1),(2,1)] [I64 0,I64 0,I64 0] [E0,E0,E0] Zm G2b ⟨.inl O,.inl O,.inl O,G⟩ O O) O (JLh (LS 3 Hw.av [(Hw.mk y27 0 v33)]) (Ha (xs:=[.agg [I64 y27,I64 0,I64 v33]]) O ⟨O,O,G⟩ H38 Hb2 O O O O) O ?_))
  obtain⟨r34,hr34,h⟩:=Gd h
  refine JLh (BL r34) (Ga9 (args:=[LS 3 Hw.av [(Hw.mk y27 0 v33)]]) (caps:=[]) O O (Ha8 [(Hw.mk y27 0 v33)] r34 hr34) Jb7 ⟨O,O,G⟩ O) O (JLh (BL (!r34)) (Q3 (b:=r34) O O) O (JLm (BL (!r34)) O (JLo (Ei i27) [] O .scf G (fun hc=>G4 O O) O (JLo (BL (decide (0 < (i27:Int)))) [24] O .scf ⟨Ua,G⟩ (fun hc=>G41 O O O) O (JLo (BL (decide (0 < (i27:Int)))) [25] O .scf ⟨Ua,G⟩ (fun hc=>G4 O O) O (JLo (I64 y27) [] O .optt G (fun hc=>G4 O O) O (JLo (.dptr [E1 c.Plugs,I64 c.X,I64 c.Y,I64 c.Z]) [] O .optt G (fun hc=>Ga Rn O O O) O (JLo (E1 c.Plugs) [28] O .optt ⟨Ua,G⟩ (fun hc=>Ge J1 O O O) O (JLo (Ei i27) [] O .optt G (fun hc=>G4 O O) O ?_)))))))))
  obtain⟨v35,hv35,h⟩:=Gd h
  refine JLo (I64 v35) [30] O .optt ⟨Ua,G⟩ (fun hc=>Ge4 (Kj (Gw hc hv35)) O O O) O ?_
  obtain⟨y36,hy36,h⟩:=Gd h
  refine JLo (.dptr [I64 y36]) [29,31] O .optt ⟨Ua,Ua,G⟩ (fun hc=>(match Q0 (Gw hc hy36) with | ⟨_,hm_,hy_⟩=>Gv (f:=I64) (xs:=c.Plugs) (y:=y36) O O O Gn hy_ hm_)) O (JLo (I64 y36) [32] O .optt ⟨Ua,G⟩ (fun hc=>Ge Gb O O O) O (JLo (BL (decide (y27≤y36))) [27,33] O .optt ⟨Ua,Ua,G⟩ (fun hc=>J10 O O O) O (G9 (u:=BL ((decide (0 < (i27:Int)))&&(decide (y27≤y36)))) [(26,BL (decide (0 < (i27:Int)))),(34,_)] O O O .scf ⟨.all id,.part,G⟩ (fun hc=>J4 O O O O) ?_)))
  refine JLh (BL ((!r34)||((decide (0 < (i27:Int)))&&(decide (y27≤y36))))) (Rs O O O O) O (G7 (hK32 (JCc O h (fun h hb=>?_) (fun h hb=>?_))))
  ·
   refine Jr fun hK37=>(JLm (BL false) O (G7 (hK37 (Gq (fin1 BL h)))))
  ·
   refine Gm (hK30 (G2 (JLh (I64 ((i27+1:Nat):Int)) (Ht (Hb hk27 hm8) O O O) O (JLm (I64 ((i27+1:Nat):Int)) O (G7 (e27 _ _ (i27+1) () (app1 hn27 h) (by omega) ⟨(.sm O O),G,rfl⟩))))))
 ·
  have h:=app1 hkx27 (Hk hi27 (H3 hb))
  refine Hi (hK3 ?_)
  refine Jr fun hK38=>(JLm (.fn 157 []) O (JLh (Ed c) (Ga G26 O O O) O (JLh (I64 c.Bay) (Ge Gb O O O) O (JLh (.agg [I64 c.Bay,I64 0,I64 39]) (Jk (cs:=[I64 c.Bay,I64 0,I64 39]) [(0,1),(1,1),(2,1)] [I64 0,I64 0,I64 0] [E0,E0,E0] Zm G2b ⟨.inl O,.inl O,.inl O,G⟩ O O) O (JLh (.dptr [I64 c.Row,BL c.Deck,I64 c.Tiers,I64 c.Height,I64 c.Kilos20,I64 c.Kilos40,I64 c.Lash,E1 c.Plugs,I64 c.X,I64 c.Y,I64 c.Z]) (Ga G25 O O O) O (JLh (I64 c.Row) (Ge Gb O O O) O (JLh (.agg [I64 c.Row,I64 0,I64 30]) (Jk (cs:=[I64 c.Row,I64 0,I64 30]) [(0,1),(1,1),(2,1)] [I64 0,I64 0,I64 0] [E0,E0,E0] Zm G2b ⟨.inl O,.inl O,.inl O,G⟩ O O) O (JLh (.dptr (Ek c)) (Ga Zn O O O) O (JLh (I64 c.Tiers) (Ge Gb O O O) O (JLh (.agg [I64 c.Tiers,I64 1,I64 10]) (Jk (cs:=[I64 c.Tiers,I64 1,I64 10]) [(0,1),(1,1),(2,1)] [I64 0,I64 0,I64 0] [E0,E0,E0] Zm G2b ⟨.inl O,.inl O,.inl O,G⟩ O O) O (JLh (.dptr [I64 c.Height,I64 c.Kilos20,I64 c.Kilos40,I64 c.Lash,E1 c.Plugs,I64 c.X,I64 c.Y,I64 c.Z]) (Ga G45 O O O) O (JLh (I64 c.Height) (Ge Gb O O O) O (JLh (.agg [I64 c.Height,I64 0,I64 40000]) (Jk (cs:=[I64 c.Height,I64 0,I64 40000]) [(0,1),(1,1),(2,1)] [I64 0,I64 0,I64 0] [E0,E0,E0] Zm G2b ⟨.inl O,.inl O,.inl O,G⟩ O O) O ?_)))))))))))))
  refine JLh (.dptr [I64 c.Kilos20,I64 c.Kilos40,I64 c.Lash,E1 c.Plugs,I64 c.X,I64 c.Y,I64 c.Z]) (Ga H18 O O O) O (JLh (I64 c.Kilos20) (Ge Gb O O O) O (JLh (.agg [I64 c.Kilos20,I64 0,I64 500000000]) (Jk (cs:=[I64 c.Kilos20,I64 0,I64 500000000]) [(0,1),(1,1),(2,1)] [I64 0,I64 0,I64 0] [E0,E0,E0] Zm G2b ⟨.inl O,.inl O,.inl O,G⟩ O O) O (JLh (.dptr [I64 c.Kilos40,I64 c.Lash,E1 c.Plugs,I64 c.X,I64 c.Y,I64 c.Z]) (Ga H17 O O O) O (JLh (I64 c.Kilos40) (Ge Gb O O O) O (JLh (.agg [I64 c.Kilos40,I64 0,I64 500000000]) (Jk (cs:=[I64 c.Kilos40,I64 0,I64 500000000]) [(0,1),(1,1),(2,1)] [I64 0,I64 0,I64 0] [E0,E0,E0] Zm G2b ⟨.inl O,.inl O,.inl O,G⟩ O O) O (JLh (.dptr [I64 c.Lash,E1 c.Plugs,I64 c.X,I64 c.Y,I64 c.Z]) (Ga H16 O O O) O (JLh (I64 c.Lash) (Ge Gb O O O) O (JLh (.agg [I64 c.Lash,I64 0,I64 1000000000000]) (Jk (cs:=[I64 c.Lash,I64 0,I64 1000000000000]) [(0,1),(1,1),(2,1)] [I64 0,I64 0,I64 0] [E0,E0,E0] Zm G2b ⟨.inl O,.inl O,.inl O,G⟩ O O) O (JLh (.dptr [I64 c.X,I64 c.Y,I64 c.Z]) (Ga H15 O O O) O (JLh (I64 c.X) (Ge Gb O O O) O (JLh (.agg [I64 c.X,I64 (-500000),I64 500000]) (Jk (cs:=[I64 c.X,I64 (-500000),I64 500000]) [(0,1),(1,1),(2,1)] [I64 0,I64 0,I64 0] [E0,E0,E0] Zm G2b ⟨.inl O,.inl O,.inl O,G⟩ O O) O (JLh (.dptr [I64 c.Y,I64 c.Z]) (Ga Gec O O O) O (JLh (I64 c.Y) (Ge Gb O O O) O ?_)))))))))))))
  refine JLh (.agg [I64 c.Y,I64 (-500000),I64 500000]) (Jk (cs:=[I64 c.Y,I64 (-500000),I64 500000]) [(0,1),(1,1),(2,1)] [I64 0,I64 0,I64 0] [E0,E0,E0] Zm G2b ⟨.inl O,.inl O,.inl O,G⟩ O O) O (JLh (.dptr [I64 c.Z]) (Ga Geb O O O) O (JLh (I64 c.Z) (Ge Gb O O O) O (JLh (.agg [I64 c.Z,I64 (-500000),I64 500000]) (Jk (cs:=[I64 c.Z,I64 (-500000),I64 500000]) [(0,1),(1,1),(2,1)] [I64 0,I64 0,I64 0] [E0,E0,E0] Zm G2b ⟨.inl O,.inl O,.inl O,G⟩ O O) O (JLh (LS 3 Hw.av [(Hw.mk c.Bay 0 39),(Hw.mk c.Row 0 30),(Hw.mk c.Tiers 1 10),(Hw.mk c.Height 0 40000),(Hw.mk c.Kilos20 0 500000000),(Hw.mk c.Kilos40 0 500000000),(Hw.mk c.Lash 0 1000000000000),(Hw.mk c.X (-500000) 500000),(Hw.mk c.Y (-500000) 500000),(Hw.mk c.Z (-500000) 500000)]) (Ha (xs:=[.agg [I64 c.Bay,I64 0,I64 39],.agg [I64 c.Row,I64 0,I64 30],.agg [I64 c.Tiers,I64 1,I64 10],.agg [I64 c.Height,I64 0,I64 40000],.agg [I64 c.Kilos20,I64 0,I64 500000000],.agg [I64 c.Kilos40,I64 0,I64 500000000],.agg [I64 c.Lash,I64 0,I64 1000000000000],.agg [I64 c.X,I64 (-500000),I64 500000],.agg [I64 c.Y,I64 (-500000),I64 500000],.agg [I64 c.Z,I64 (-500000),I64 500000]]) O ⟨O,O,O,O,O,O,O,O,O,O,O,O,O,O,O,O,O,O,O,O,G⟩ H38 Hb2 O O O O) O ?_))))
  obtain⟨r39,hr39,h⟩:=Gd h
  refine JLh (BL r39) (Ga9 (args:=[LS 3 Hw.av [(Hw.mk c.Bay 0 39),(Hw.mk c.Row 0 30),(Hw.mk c.Tiers 1 10),(Hw.mk c.Height 0 40000),(Hw.mk c.Kilos20 0 500000000),(Hw.mk c.Kilos40 0 500000000),(Hw.mk c.Lash 0 1000000000000),(Hw.mk c.X (-500000) 500000),(Hw.mk c.Y (-500000) 500000),(Hw.mk c.Z (-500000) 500000)]]) (caps:=[]) O O (Ha8 [(Hw.mk c.Bay 0 39),(Hw.mk c.Row 0 30),(Hw.mk c.Tiers 1 10),(Hw.mk c.Height 0 40000),(Hw.mk c.Kilos20 0 500000000),(Hw.mk c.Kilos40 0 500000000),(Hw.mk c.Lash 0 1000000000000),(Hw.mk c.X (-500000) 500000),(Hw.mk c.Y (-500000) 500000),(Hw.mk c.Z (-500000) 500000)] r39 hr39) Jb7 ⟨O,O,G⟩ O) O (JLm (BL r39) O (G7 (hK38 (Gq (fin1 BL h)))))

def Gfa (s:H0) (Rp:Bool→Prop):Option Prop:=
 bif (((decide ((s.Columns.length:Int) < 1))||(decide (200 < (s.Columns.length:Int))))||(decide (40 < (s.Covers.length:Int)))) then
 (some (Rp false))
 else
 (each (fun y68 i68 (s68:(Hr Hn Int)) nx68=>
   jp (fun kj74=>
    bif y68.Deck then
    (kj74 1)
    else
    (kj74 0)) fun(j74:Int)=>
   bnd (some (Hr.get s68 (Hn.mk y68.Bay y68.Row j74) 0)) fun v77=>
   chk (v77+1) fun v78=>
   bnd (Gb3 y68) fun r80=>
   bif (!r80) then
   (some (Rp false))
   else
   (nx68 (Hr.put s68 (Hn.mk y68.Bay y68.Row j74) v78)))
  (fun(s68:(Hr Hn Int))=>
   each (fun y84 i84 (s84:(Hr Hn Int)) nx84=>
    bif (((decide (y84.Bay < 0))||(decide (40≤y84.Bay)))||(decide ((y84.Rows.length:Int)=0))) then
    (some (Rp false))
    else
    (each (fun y157 i157 (s157:(Hr Hn Int)) nx157=>
      bnd (bif ((!((decide (y157 < 0))||(decide (30 < y157))))&&(decide (0 < (i157:Int)))) then chk ((i157:Int) - 1) some else some 0) fun v164=>
      bnd (bif ((!((decide (y157 < 0))||(decide (30 < y157))))&&(decide (0 < (i157:Int)))) then Qm y84.Rows v164 some else some default) fun y165=>
      bif (((decide (y157 < 0))||(decide (30 < y157)))||((decide (0 < (i157:Int)))&&(decide (y157≤y165)))) then
      (some (Rp false))
      else
      (bnd (some (Hr.get s157 (Hn.mk y84.Bay y157 2) 0)) fun v167=>
       chk (v167+1) fun v168=>
       nx157 (Hr.put s157 (Hn.mk y84.Bay y157 2) v168)))
     (fun(s157:(Hr Hn Int))=>
      nx84 s157) y84.Rows 0 s84))
   (fun(s84:(Hr Hn Int))=>
    Q42 (fun(x176:Hn×Int) (s176:Unit) nx176=>
     bif decide (1 < x176.2) then
     (lft (some (Rp false)))
     else
     (nx176 ()))
    (fun(s176:Unit)=>
     some (Rp true)) (Hr.l s84) ()) s.Covers 0 s68) s.Columns 0 (Hr.empty:Hr Hn Int))
def H4c (s:H0):Option Bool:=
 bif (((decide ((s.Columns.length:Int) < 1))||(decide (200 < (s.Columns.length:Int))))||(decide (40 < (s.Covers.length:Int)))) then
 (some (id false))
 else
 (each (fun y68 i68 (s68:(Hr Hn Int)) nx68=>
   jp (fun kj74=>
    bif y68.Deck then
    (kj74 1)
    else
    (kj74 0)) fun(j74:Int)=>
   bnd (some (Hr.get s68 (Hn.mk y68.Bay y68.Row j74) 0)) fun v77=>
   chk (v77+1) fun v78=>
   bnd (Gb3 y68) fun r80=>
   bif (!r80) then
   (some (id false))
   else
   (nx68 (Hr.put s68 (Hn.mk y68.Bay y68.Row j74) v78)))
  (fun(s68:(Hr Hn Int))=>
   each (fun y84 i84 (s84:(Hr Hn Int)) nx84=>
    bif (((decide (y84.Bay < 0))||(decide (40≤y84.Bay)))||(decide ((y84.Rows.length:Int)=0))) then
    (some (id false))
    else
    (each (fun y157 i157 (s157:(Hr Hn Int)) nx157=>
      bnd (bif ((!((decide (y157 < 0))||(decide (30 < y157))))&&(decide (0 < (i157:Int)))) then chk ((i157:Int) - 1) some else some 0) fun v164=>
      bnd (bif ((!((decide (y157 < 0))||(decide (30 < y157))))&&(decide (0 < (i157:Int)))) then Qm y84.Rows v164 some else some default) fun y165=>
      bif (((decide (y157 < 0))||(decide (30 < y157)))||((decide (0 < (i157:Int)))&&(decide (y157≤y165)))) then
      (some (id false))
      else
      (bnd (some (Hr.get s157 (Hn.mk y84.Bay y157 2) 0)) fun v167=>
       chk (v167+1) fun v168=>
       nx157 (Hr.put s157 (Hn.mk y84.Bay y157 2) v168)))
     (fun(s157:(Hr Hn Int))=>
      nx84 s157) y84.Rows 0 s84))
   (fun(s84:(Hr Hn Int))=>
    J4f (fun(x176:Hn×Int) (s176:Unit) nx176=>
     bif decide (1 < x176.2) then
     (lft (some (id false)))
     else
     (nx176 ()))
    (fun(s176:Unit)=>
     some (id true)) (Hr.l s84) ()) s.Covers 0 s68) s.Columns 0 (Hr.empty:Hr Hn Int))
abbrev Em (s:H0):List AV:=[E6 s.Covers,I64 s.Light.Kilos,I64 s.Light.X,I64 s.Light.Y,I64 s.Light.Z,E8 s.Rows,E7 s.Frames,E9 s.Tanks,I64 s.G1.Tolerance,I64 s.G1.Trim,I64 s.G1.List_,I64 s.G1.Stability]
theorem Q5a (s:H0) (Rp:Bool→Prop) (p:Prop) (h:Gfa s Rp=some p) (hp:p):Pure Ej 63 [.agg (H0.cs s)] (fun av=>∃ r,Rp r∧av=BL r):=by
 unfold Gfa at h
 refine Gy [.tmp 2] Tryz.func63 O O (Jr fun hK1=>(JLh (.ptr 1109 0) (J7 (cs:=(H0.cs s)) 1109 O O O O O) O (JLm (BL false) O (G7 (hK1 (Gr [(1,Eb s)] [] 1109 rfl rfl rfl G rfl (by exact⟨.ptr,G⟩) (Js fun hK2=>?_)))))))
 refine Jr fun hK3=>(JLh (Eb s) (Ga Hh O O O) O (JLh (E5 s.Columns) (Ge Ho O O O) O (JLl H6 O O O fun hm15=>(JLh (BL (decide ((s.Columns.length:Int) < 1))) (Hy O O O) O (JLm (BL (decide ((s.Columns.length:Int) < 1))) O (JLo (Eb s) [] O .scf G (fun hc=>Ga Hh O O O) O (JLo (E5 s.Columns) [18] O .scf ⟨Ua,G⟩ (fun hc=>Ge Ho O O O) O (JLo (Ei s.Columns.length) [19] O .scf ⟨Ua,G⟩ (fun hc=>Qs (f:=G3.av) (xs:=s.Columns) H6 O O) O (JLo (BL (decide (200 < (s.Columns.length:Int)))) [20] O .scf ⟨Ua,G⟩ (fun hc=>G41 O O O) O (JLh (BL ((decide ((s.Columns.length:Int) < 1))||(decide (200 < (s.Columns.length:Int))))) (Rs O O O O) O (JLm (BL ((decide ((s.Columns.length:Int) < 1))||(decide (200 < (s.Columns.length:Int))))) O (JLo (.dptr (Em s)) [] O .scf G (fun hc=>Ga Jg O O O) O (JLo (E6 s.Covers) [24] O .scf ⟨Ua,G⟩ (fun hc=>Ge Jv O O O) O ?_)))))))))))))
 refine JLo (Ei s.Covers.length) [25] O .scf ⟨Ua,G⟩ (fun hc=>Qs (f:=G8.av) (xs:=s.Covers) Hq O O) O (JLo (BL (decide (40 < (s.Covers.length:Int)))) [26] O .scf ⟨Ua,G⟩ (fun hc=>G41 O O O) O (JLh (BL (((decide ((s.Columns.length:Int) < 1))||(decide (200 < (s.Columns.length:Int))))||(decide (40 < (s.Covers.length:Int))))) (Rs O O O O) O (G7 (hK3 (JCc O h (fun h hb=>?_) (fun h hb=>?_))))))
 ·
  refine Jr fun hK4=>(JLm (BL false) O (G7 (hK4 (Gq (⟨[BL false],[],G,O,⟨⟨_,O,.conv (.same O)⟩,G⟩,O,false,Eq.mpr (Kj h) hp,O⟩)))))
 ·
  refine Gm (hK2 (Jr fun hK5=>(JLh (.mp 1112) (J5d 1112 Hn.kv I64 O O) O (JLm (.mp 1112) O (G7 (hK5 (Js fun hK6=>Jr fun hK7=>(JLh (Eb s) (Ga Hh O O O) O (JLh (E5 s.Columns) (Ge Ho O O O) O (JLl H6 O O O fun hm32=>(JLm (I64 0) O (G7 (hK7 (Gp ?_))))))))))))))
  obtain⟨b68,kx68,hb68,hkx68,h⟩:=Hv h
  refine Hc (fun i68 (s68:(Hr Hn Int))=>each b68 kx68 (List.drop i68 s.Columns) i68 s68=some p) (fun i68 s68=>[(1,Eb s),(3,.mp 1112),(31,E5 s.Columns),(32,Ei s.Columns.length),(33,Ei i68)]) (fun i68 s68=>[(1112,MP 154 Hn.kv I64 s68)]) (fun i68=>s.Columns.length - i68) 0 (Hr.empty:Hr Hn Int) h ⟨(.sm O O),⟨⟨_,rfl,.map⟩,G⟩,rfl⟩ ?_
  clear h
  intro i68 s68 hi68 K68 e68
  refine Jr fun hK69=>(JLh (BL (decide ((i68:Int) < (s.Columns.length:Int)))) (Hy O O O) O (G7 (hK69 (Js fun hK70=>Gj O (fun hb=>?_) (fun hb=>?_)))))
  ·
   have hk68:=J8 hb
   obtain⟨y68,nx68,hy68,hn68,h⟩:=Hj hi68 hk68
   replace h:=R8 hb68 h
   refine Gm (hK70 (Js fun hK71=>Gp (Jr fun hK72=>(JLh (Ed y68) (Gv (f:=G3.av) (xs:=s.Columns) (y:=y68) O O O H6 hy68 O) O (JLh (.agg (G3.cs y68)) (Gg Y6 O O O) O (JLh (.ptr 1110 0) (Jn 1110 12 G76 O O) O (Je (u:=.junk) (J5 (u:=.agg (G3.cs y68)) (ds:=(G3.cs y68)) Gd3 O O O O O O O O) (G7 (hK72 ?_)))))))))
   refine Gr [(1,Eb s),(3,.mp 1112),(5,Ed y68),(31,E5 s.Columns),(32,Ei s.Columns.length),(33,Ei i68)] [(1112,MP 154 Hn.kv I64 s68)] 1110 rfl rfl rfl ⟨⟨_,rfl,.map⟩,G⟩ rfl (by repeat' (first | exact .ptr | constructor)) (Jr fun hK73=>(JLm (I64 0) O (G7 (hK73 ?_))))
   obtain⟨kj74,hkj74,h⟩:=G09 h
   refine Yt (fun j74:Int=>kj74 j74=some p) (fun j74=>[(1,Eb s),(3,.mp 1112),(5,Ed y68),(6,I64 j74),(31,E5 s.Columns),(32,Ei s.Columns.length),(33,Ei i68)]) (fun j74=>[(1112,MP 154 Hn.kv I64 s68)]) (fun Kj74 ej74=>?_) ?_
   ·
    refine Jr fun hK75=>(JLh (.dptr ((G3.cs y68).drop 2)) (Ga Ro O O O) O (JLh (BL y68.Deck) (Ge Qv O O O) O (G7 (hK75 (JCc O h (fun h hb=>?_) (fun h hb=>?_))))))
    ·
     refine G2 (JLm (I64 1) O (G7 (ej74 _ _ 1 h ⟨(.sm O O),⟨⟨_,rfl,.map⟩,G⟩,rfl⟩)))
    ·
     refine Gm (ej74 _ _ 0 h ⟨(.sm O O),⟨⟨_,rfl,.map⟩,G⟩,rfl⟩)
   ·intro j74 h
    replace h:=app1 hkj74 h
    refine Js fun hK76=>G29 (l':=[(1,Eb s),(3,.mp 1112),(5,Ed y68),(6,I64 j74),(31,E5 s.Columns),(32,Ei s.Columns.length),(33,Ei i68)]) (L':=[(1112,MP 154 Hn.kv I64 s68)]) ⟨(.sm O O),⟨⟨_,rfl,.map⟩,G⟩,rfl⟩ ?_
    obtain⟨v77,hv77,h⟩:=Gd h
    obtain⟨v78,hv78,h⟩:=Qk h
    refine Jf [9,11] [0,0,0,0,0,0,0,0,0,0,1,0] [0,0,0,0,0,0,0,1,1,0,1,0] [[(1112,MP 154 Hn.kv I64 s68)],((1112,MI 154 Hn.kv I64 s68 (Hn.mk y68.Bay y68.Row j74) 0)::[(1112,MP 154 Hn.kv I64 s68)]),((1112,MP 154 Hn.kv I64 (Hr.put s68 (Hn.mk y68.Bay y68.Row j74) v78))::((1112,MI 154 Hn.kv I64 s68 (Hn.mk y68.Bay y68.Row j74) 0)::[(1112,MP 154 Hn.kv I64 s68)]))] Jb (by kernel_rfl) rfl rfl ?_
    refine Gc (u:=.mp 1112) O O ⟨Gt (G4 O O) O,G⟩ (Gc (u:=Ed y68) O O ⟨Gt (Ga G26 O O O) O,G⟩ (Gc (u:=I64 y68.Bay) O O ⟨Gt (Ge Gb O O O) O,G⟩ (Gc (u:=.dptr ((G3.cs y68).drop 1)) O O ⟨Gt (Ga G25 O O O) O,G⟩ (Gc (u:=I64 y68.Row) O O ⟨Gt (Ge Gb O O O) O,G⟩ (Gc (u:=I64 j74) O O ⟨Gt (G4 O O) O,G⟩ (Gc (u:=.agg [I64 y68.Bay,I64 y68.Row,I64 j74]) O O ⟨Gt (J5f (cs:=[I64 y68.Bay,I64 y68.Row,I64 j74]) [E0,E0,E0] Q1d Jb2 O O) O,G⟩ (Gc (u:=I64 v77) O O ⟨Gt (((Kj hv77) ▸ J5e (av:=I64) (m:=s68) (a:=(Hn.mk y68.Bay y68.Row j74)) 0 E0 O O O O J91 Gd4 Hb1 O)) O,Gt (((Kj hv77) ▸ Q6c (av:=I64) (m:=s68) (a:=(Hn.mk y68.Bay y68.Row j74)) 0 E0 O O O O J91 Gd4 Hb1 O)) O,G⟩ (Gc (u:=I64 v78) O O ⟨Gt (Ht hv78 O O O) O,Gt (Ht hv78 O O O) O,G⟩ (D_w (u:=.tup [.junk,I64 (G5c (Hr.l s68) (Hn.mk y68.Bay y68.Row j74):Int)]) O O O O (Gt (Jde (m:=s68) (a:=(Hn.mk y68.Bay y68.Row j74)) 0 E0 O O O O J91 Gd4 Hb1 O) O) (Gc (u:=I64 (G5c (Hr.l s68) (Hn.mk y68.Bay y68.Row j74):Int)) O O ⟨Gt (H4 O O O) O,G⟩ (D_w0 (u:=.junk) O O O O (Gt (J38 (m:=s68) (a:=(Hn.mk y68.Bay y68.Row j74)) (v:=v78) 0 O O O O O O) O) (R2 ?_))))))))))))
    refine hK76 (Jr fun hK79=>(JLh (.agg (G3.cs y68)) (Gg Y6 O O O) O ?_))
    obtain⟨r80,hr80,h⟩:=Gd h
    refine JLh (BL r80) (Gi O (Q58 y68 r80 hr80) R09 ⟨O,O,G⟩) O (JLh (BL (!r80)) (Q3 (b:=r80) O O) O (G7 (hK79 (JCc O h (fun h hb=>?_) (fun h hb=>?_)))))
    ·
     refine Jr fun hK81=>(JLm (BL false) O (G7 (hK81 (Gq (⟨[BL false],[],G,O,⟨⟨_,O,.conv (.same O)⟩,G⟩,O,false,Eq.mpr (Kj h) hp,O⟩)))))
    ·
     refine Gm (hK71 (G2 (JLh (I64 ((i68+1:Nat):Int)) (Ht (Hb hk68 hm32) O O O) O (JLm (I64 ((i68+1:Nat):Int)) O (G7 (e68 _ _ (i68+1) (Hr.put s68 (Hn.mk y68.Bay y68.Row j74) v78) (app1 hn68 h) (by omega) ⟨(.sm O O),⟨⟨_,rfl,.map⟩,G⟩,rfl⟩))))))
  ·
   have h:=app1 hkx68 (Hk hi68 (H3 hb))
   refine Hi (hK6 (Js fun hK82=>Jr fun hK83=>(JLh (.dptr (Em s)) (Ga Jg O O O) O (JLh (E6 s.Covers) (Ge Jv O O O) O (JLl Hq O O O fun hm56=>(JLm (I64 0) O (G7 (hK83 (Gp ?_)))))))))
   obtain⟨b84,kx84,hb84,hkx84,h⟩:=Hv h
   refine Hc (fun i84 (s84:(Hr Hn Int))=>each b84 kx84 (List.drop i84 s.Covers) i84 s84=some p) (fun i84 s84=>[(3,.mp 1112),(55,E6 s.Covers),(56,Ei s.Covers.length),(57,Ei i84)]) (fun i84 s84=>[(1112,MP 154 Hn.kv I64 s84)]) (fun i84=>s.Covers.length - i84) 0 s68 h ⟨(.sm O O),⟨⟨_,rfl,.map⟩,G⟩,rfl⟩ ?_
   clear h
   intro i84 s84 hi84 K84 e84
   refine Jr fun hK85=>(JLh (BL (decide ((i84:Int) < (s.Covers.length:Int)))) (Hy O O O) O (G7 (hK85 (Js fun hK86=>Gj O (fun hb=>?_) (fun hb=>?_)))))
   ·
    have hk84:=J8 hb
    obtain⟨y84,nx84,hy84,hn84,h⟩:=Hj hi84 hk84
    replace h:=R8 hb84 h
    refine Gm (hK86 (Js fun hK87=>Gp (Jr fun hK88=>(JLh (.dptr [I64 y84.Bay,E1 y84.Rows]) (Gv (f:=G8.av) (xs:=s.Covers) (y:=y84) O O O Hq hy84 O) O (JLh (.agg [I64 y84.Bay,E1 y84.Rows]) (Gg Z0 O O O) O (JLh (.ptr 1111 0) (Jn 1111 2 G75 O O) O (Je (u:=.junk) (J5 (u:=.agg [I64 y84.Bay,E1 y84.Rows]) (ds:=[I64 y84.Bay,E1 y84.Rows]) Gd2 O O O O O O O O) (G7 (hK88 (Gr [(3,.mp 1112),(8,.dptr [I64 y84.Bay,E1 y84.Rows]),(55,E6 s.Covers),(56,Ei s.Covers.length),(57,Ei i84)] [(1112,MP 154 Hn.kv I64 s84)] 1111 rfl rfl rfl ⟨⟨_,rfl,.map⟩,G⟩ rfl (by repeat' (first | exact .ptr | constructor)) (Js fun hK89=>?_)))))))))))
    refine Jr fun hK90=>(JLh (.dptr [I64 y84.Bay,E1 y84.Rows]) (Ga G06 O O O) O (JLh (I64 y84.Bay) (Ge Gb O O O) O (JLh (BL (decide (y84.Bay < 0))) (Hy O O O) O (JLm (BL (decide (y84.Bay < 0))) O (JLo (.dptr [I64 y84.Bay,E1 y84.Rows]) [] O .scf G (fun hc=>Ga G06 O O O) O (JLo (I64 y84.Bay) [65] O .scf ⟨Ua,G⟩ (fun hc=>Ge Gb O O O) O (JLo (BL (decide (40≤y84.Bay))) [66] O .scf ⟨Ua,G⟩ (fun hc=>G13 O O O) O (JLh (BL ((decide (y84.Bay < 0))||(decide (40≤y84.Bay)))) (Rs O O O O) O (JLm (BL ((decide (y84.Bay < 0))||(decide (40≤y84.Bay)))) O (JLo (.dptr [E1 y84.Rows]) [] O .scf G (fun hc=>Ga Qf O O O) O (JLo (E1 y84.Rows) [70] O .scf ⟨Ua,G⟩ (fun hc=>Ge J1 O O O) O (JLo (Ei y84.Rows.length) [71] O .scf ⟨Ua,G⟩ (fun hc=>Qs (f:=I64) (xs:=y84.Rows) Gn O O) O (JLo (BL (decide ((y84.Rows.length:Int)=0))) [72] O .scf ⟨Ua,G⟩ (fun hc=>Ju O O O) O ?_)))))))))))))
    refine JLh (BL (((decide (y84.Bay < 0))||(decide (40≤y84.Bay)))||(decide ((y84.Rows.length:Int)=0)))) (Rs O O O O) O (G7 (hK90 (JCc O h (fun h hb=>?_) (fun h hb=>?_))))
    ·
     refine Jr fun hK91=>(JLm (BL false) O (G7 (hK91 (Gq (⟨[BL false],[],G,O,⟨⟨_,O,.conv (.same O)⟩,G⟩,O,false,Eq.mpr (Kj h) hp,O⟩)))))
    ·
     refine Gm (hK89 (Jr fun hK92=>(JLh (.dptr [E1 y84.Rows]) (Ga Qf O O O) O (JLh (E1 y84.Rows) (Ge J1 O O O) O (JLl Gn O O O fun hm77=>(JLm (I64 0) O (G7 (hK92 (Gp ?_)))))))))
     obtain⟨b157,kx157,hb157,hkx157,h⟩:=Hv h
     refine Hc (fun i157 (s157:(Hr Hn Int))=>each b157 kx157 (List.drop i157 y84.Rows) i157 s157=some p) (fun i157 s157=>[(3,.mp 1112),(8,.dptr [I64 y84.Bay,E1 y84.Rows]),(55,E6 s.Covers),(56,Ei s.Covers.length),(57,Ei i84),(76,E1 y84.Rows),(77,Ei y84.Rows.length),(78,Ei i157)]) (fun i157 s157=>[(1112,MP 154 Hn.kv I64 s157)]) (fun i157=>y84.Rows.length - i157) 0 s84 h ⟨(.sm O O),⟨⟨_,rfl,.map⟩,G⟩,rfl⟩ ?_
     clear h
     intro i157 s157 hi157 K157 e157
     refine Jr fun hK158=>(JLh (BL (decide ((i157:Int) < (y84.Rows.length:Int)))) (Hy O O O) O (G7 (hK158 (Js fun hK159=>Gj O (fun hb=>?_) (fun hb=>?_)))))
     ·
      have hk157:=J8 hb
      obtain⟨y157,nx157,hy157,hn157,h⟩:=Hj hi157 hk157
      replace h:=R8 hb157 h
      refine Gm (hK159 (Js fun hK160=>Gp (Jr fun hK161=>(JLm (Ei i157) O (JLh (.dptr [I64 y157]) (Gv (f:=I64) (xs:=y84.Rows) (y:=y157) O O O Gn hy157 O) O (JLh (I64 y157) (Ge Gb O O O) O (JLm (Ei i157) O (JLm (I64 y157) O (G7 (hK161 (Js fun hK162=>?_)))))))))))
      refine Jr fun hK163=>(JLm (I64 y157) O (JLh (BL (decide (y157 < 0))) (Hy O O O) O (JLm (BL (decide (y157 < 0))) O (JLo (I64 y157) [] O .scf G (fun hc=>G4 O O) O (JLo (BL (decide (30 < y157))) [86] O .scf ⟨Ua,G⟩ (fun hc=>G41 O O O) O (JLh (BL ((decide (y157 < 0))||(decide (30 < y157)))) (Rs O O O O) O (JLm (BL ((decide (y157 < 0))||(decide (30 < y157)))) O (JLo (Ei i157) [] O .scf G (fun hc=>G4 O O) O (JLo (BL (decide (0 < (i157:Int)))) [90] O .scf ⟨Ua,G⟩ (fun hc=>G41 O O O) O (JLo (BL (decide (0 < (i157:Int)))) [91] O .scf ⟨Ua,G⟩ (fun hc=>G4 O O) O (JLo (I64 y157) [] O .optt G (fun hc=>G4 O O) O (JLo (.dptr [E1 y84.Rows]) [] O .optt G (fun hc=>Ga Qf O O O) O (JLo (E1 y84.Rows) [94] O .optt ⟨Ua,G⟩ (fun hc=>Ge J1 O O O) O ?_)))))))))))))
      refine JLo (Ei i157) [] O .optt G (fun hc=>G4 O O) O ?_
      obtain⟨v164,hv164,h⟩:=Gd h
      refine JLo (I64 v164) [96] O .optt ⟨Ua,G⟩ (fun hc=>Ge4 (G2d (Gw hc hv164)) O O O) O ?_
      obtain⟨y165,hy165,h⟩:=Gd h
      refine JLo (.dptr [I64 y165]) [95,97] O .optt ⟨Ua,Ua,G⟩ (fun hc=>(match Q0 (Gw hc hy165) with | ⟨_,hm_,hy_⟩=>Gv (f:=I64) (xs:=y84.Rows) (y:=y165) O O O Gn hy_ hm_)) O (JLo (I64 y165) [98] O .optt ⟨Ua,G⟩ (fun hc=>Ge Gb O O O) O (JLo (BL (decide (y157≤y165))) [93,99] O .optt ⟨Ua,Ua,G⟩ (fun hc=>J10 O O O) O (G9 (u:=BL ((decide (0 < (i157:Int)))&&(decide (y157≤y165)))) [(92,BL (decide (0 < (i157:Int)))),(100,_)] O O O .scf ⟨.all id,.part,G⟩ (fun hc=>J4 O O O O) ?_)))
      refine JLh (BL (((decide (y157 < 0))||(decide (30 < y157)))||((decide (0 < (i157:Int)))&&(decide (y157≤y165))))) (Rs O O O O) O (G7 (hK163 (JCc O h (fun h hb=>?_) (fun h hb=>?_))))
      ·
       refine Jr fun hK166=>(JLm (BL false) O (G7 (hK166 (Gq (⟨[BL false],[],G,O,⟨⟨_,O,.conv (.same O)⟩,G⟩,O,false,Eq.mpr (Kj h) hp,O⟩)))))
      ·
       refine Gm (hK162 (G29 (l':=[(3,.mp 1112),(8,.dptr [I64 y84.Bay,E1 y84.Rows]),(10,I64 y157),(55,E6 s.Covers),(56,Ei s.Covers.length),(57,Ei i84),(76,E1 y84.Rows),(77,Ei y84.Rows.length),(78,Ei i157)]) (L':=[(1112,MP 154 Hn.kv I64 s157)]) ⟨(.sm O O),⟨⟨_,rfl,.map⟩,G⟩,rfl⟩ ?_))
       obtain⟨v167,hv167,h⟩:=Gd h
       obtain⟨v168,hv168,h⟩:=Qk h
       refine Jf [7,9] [0,0,0,0,0,0,0,0,1,0] [0,0,0,0,0,1,1,0,1,0] [[(1112,MP 154 Hn.kv I64 s157)],((1112,MI 154 Hn.kv I64 s157 (Hn.mk y84.Bay y157 2) 0)::[(1112,MP 154 Hn.kv I64 s157)]),((1112,MP 154 Hn.kv I64 (Hr.put s157 (Hn.mk y84.Bay y157 2) v168))::((1112,MI 154 Hn.kv I64 s157 (Hn.mk y84.Bay y157 2) 0)::[(1112,MP 154 Hn.kv I64 s157)]))] Jb (by kernel_rfl) rfl rfl ?_
       refine Gc (u:=.mp 1112) O O ⟨Gt (G4 O O) O,G⟩ (Gc (u:=.dptr [I64 y84.Bay,E1 y84.Rows]) O O ⟨Gt (Ga G06 O O O) O,G⟩ (Gc (u:=I64 y84.Bay) O O ⟨Gt (Ge Gb O O O) O,G⟩ (Gc (u:=I64 y157) O O ⟨Gt (G4 O O) O,G⟩ (Gc (u:=.agg [I64 y84.Bay,I64 y157,I64 2]) O O ⟨Gt (J5f (cs:=[I64 y84.Bay,I64 y157,I64 2]) [E0,E0,E0] Q1d Jb2 O O) O,G⟩ (Gc (u:=I64 v167) O O ⟨Gt (((Kj hv167) ▸ J5e (av:=I64) (m:=s157) (a:=(Hn.mk y84.Bay y157 2)) 0 E0 O O O O J91 Gd4 Hb1 O)) O,Gt (((Kj hv167) ▸ Q6c (av:=I64) (m:=s157) (a:=(Hn.mk y84.Bay y157 2)) 0 E0 O O O O J91 Gd4 Hb1 O)) O,G⟩ (Gc (u:=I64 v168) O O ⟨Gt (Ht hv168 O O O) O,Gt (Ht hv168 O O O) O,G⟩ (D_w (u:=.tup [.junk,I64 (G5c (Hr.l s157) (Hn.mk y84.Bay y157 2):Int)]) O O O O (Gt (Jde (m:=s157) (a:=(Hn.mk y84.Bay y157 2)) 0 E0 O O O O J91 Gd4 Hb1 O) O) (Gc (u:=I64 (G5c (Hr.l s157) (Hn.mk y84.Bay y157 2):Int)) O O ⟨Gt (H4 O O O) O,G⟩ (D_w0 (u:=.junk) O O O O (Gt (J38 (m:=s157) (a:=(Hn.mk y84.Bay y157 2)) (v:=v168) 0 O O O O O O) O) (R2 ?_))))))))))
       refine hK160 (G2 (JLh (I64 ((i157+1:Nat):Int)) (Ht (Hb hk157 hm77) O O O) O (JLm (I64 ((i157+1:Nat):Int)) O (G7 (e157 _ _ (i157+1) (Hr.put s157 (Hn.mk y84.Bay y157 2) v168) (app1 hn157 h) (by omega) ⟨(.sm O O),⟨⟨_,rfl,.map⟩,G⟩,rfl⟩)))))
     ·
      have h:=app1 hkx157 (Hk hi157 (H3 hb))
      refine Hi (hK87 (G2 (JLh (I64 ((i84+1:Nat):Int)) (Ht (Hb hk84 hm56) O O O) O (JLm (I64 ((i84+1:Nat):Int)) O (G7 (e84 _ _ (i84+1) s157 (app1 hn84 h) (by omega) ⟨(.sm O O),⟨⟨_,rfl,.map⟩,G⟩,rfl⟩))))))
   ·
    have h:=app1 hkx84 (Hk hi84 (H3 hb))
    refine Hi (hK82 (Js fun hK169=>Jr fun hK170=>(JLm (.mp 1112) O (JLh (.it 1113) (Q6a 1113 (m:=s84) O O O O Gd4) O (G7 (hK170 (Gp ?_)))))))
    obtain⟨b176,kx176,hb176,hkx176,h⟩:=Q41 h
    refine Q65 (Hr.size s84) (fun i176 (s176:Unit)=>MInv b176 kx176 (Hr.l s84) i176 s176) (fun i176 s176=>[(115,.it 1113)]) (fun i176 s176=>[(1112,MP 154 Hn.kv I64 s84),(1113,.iter 1112 (Hr.size s84) i176)]) () (MInv.start h hp) ⟨⟨.same O,G⟩,⟨⟨_,O,.map⟩,⟨_,O,.iter O⟩,G⟩,O⟩ ?_
    clear h hp
    intro i176 s176 hi176 K176 e176
    refine Jr fun hK177=>H90 O O O (Qdc (m:=s84) O O O O) ?_
    intro u_ L_ hn_
    rcases hn_ with ⟨q176,x176,he176,hs176,rfl,rfl⟩ | ⟨ha176,rfl,rfl⟩
    ·
     obtain⟨o176,h,ho1_176,ho2_176⟩:=hi176.step he176 hs176
     replace h:=J02 hb176 h
     refine JLh (BL true) (H4 O O O) O (G7 (hK177 (Js fun hK178=>Q66 O (Gm (hK178 (Gp (Jr fun hK179=>(JLh (.tup [.agg (Hn.cs x176.1),I64 x176.2]) (Q6f (kv:=Hn.kv) (av:=I64) (m:=s84) (q:=q176) (seen:=i176) (e:=x176) O O O O he176) O (JLh (I64 x176.2) (H4 O O O) O (JLm (I64 x176.2) O (G7 (hK179 (Jr fun hK180=>(JLm (I64 x176.2) O (JLh (BL (decide (1 < x176.2))) (G41 O O O) O (G7 (hK180 (JCc O h (fun h hb=>?_) (fun h hb=>?_)))))))))))))))))))
     ·
      refine Jr fun hK181=>(JLm (BL false) O (G7 (hK181 (Gq ?_))))
      obtain⟨y_,hy_,hl_⟩:=Y52 h
      exact⟨[BL false],[],G,O,⟨⟨_,O,.conv (.same O)⟩,G⟩,O,false,Eq.mpr (Kj hl_) (ho1_176 y_ hy_),O⟩
     ·
      refine Gm (e176 _ _ (i176++[q176]) () (ho2_176 _ (Kj h).symm) (J90 (Kh he176).1 hs176) ⟨⟨.same O,G⟩,⟨⟨_,O,.map⟩,⟨_,O,.iter O⟩,G⟩,O⟩)
    ·
     obtain⟨p_,h,hp⟩:=hi176.done ha176
     replace h:=app1 hkx176 h
     refine JLh (BL false) (H4 O O O) O (G7 (hK177 (Js fun hK182=>Q67 O (Hi (hK169 (Jr fun hK183=>(JLm (BL true) O (G7 (hK183 (Gq (⟨[BL true],[],G,O,⟨⟨_,O,.conv (.same O)⟩,G⟩,O,true,Eq.mpr (Kj h) hp,O⟩)))))))))))
theorem Q5b (S_:(H0)→Option Bool) (hS_:∀ s r,S_ s=some r→∃ p:Prop,Gfa s (fun r_=>r_=r)=some p∧p) (s:H0) (r:Bool) (h:S_ s=some r):Pure Ej 63 [.agg (H0.cs s)] (·=BL r):=by
 obtain⟨p,h1,h2⟩:=hS_ s r h
 exact(Q5a s _ p h1 h2).monoP (fun av hh=>by obtain⟨r_,rfl,ha⟩:=hh; exact ha)

def G6b (size:Int):Option (List Int):=
 bif decide (size=40) then
 (some [0])
 else
 (bif decide (size=20) then
  (some [1,2])
  else
  (some []))
theorem Hd6 (size:Int) (r:(List Int)) (h:G6b size=some r):Pure Ej 115 [U8 size] (·=Ea r):=by
 unfold G6b at h
 refine Gy [.tmp 2] Tryz.func115 O O (Jr fun hK1=>(JLh (Ea ([]:List Int)) (H2 1 O O) O (G7 (hK1 (Js fun hK2=>Jr fun hK3=>(JLm (U8 size) O (G7 (hK3 (Gp (Jr fun hK4=>(JLh (BL (decide (size=40))) (Ju O O O) O (JLm (BL (decide (size=40))) O (G7 (hK4 (JCc O h (fun h hb=>?_) (fun h hb=>?_))))))))))))))))
 ·
  refine Jr fun hK5=>(JLh (Ea [0]) (Ha (xs:=[U8 0]) O ⟨O,O,G⟩ Gaa Jf7 O O O O) O (JLm (Ea [0]) O (G7 (hK5 (Gq (fin1 (fun r:(List Int)=>(Ea r:AV)) h))))))
 ·
  refine Jr fun hK6=>(JLh (BL (decide (size=20))) (Ju O O O) O (JLm (BL (decide (size=20))) O (G7 (hK6 (JCc O h (fun h hb=>?_) (fun h hb=>?_))))))
  ·
   refine Jr fun hK7=>(JLh (Ea [1,2]) (Ha (xs:=[U8 1,U8 2]) O ⟨O,O,O,O,G⟩ Gaa Jf7 O O O O) O (JLm (Ea [1,2]) O (G7 (hK7 (Gq (fin1 (fun r:(List Int)=>(Ea r:AV)) h))))))
  ·
   refine Gm (hK2 (Jr fun hK8=>(JLh (Ea ([]:List Int)) (H2 1 O O) O (G7 (hK8 (Gq (fin1 (fun r:(List Int)=>(Ea r:AV)) h)))))))

def Gf9 (p1:H0) (p2:Int) (ys_:List Slot):Option Unit:=
 each (fun y2 i2 (s2:Nat) nx2=>
  need (decide ((max y2.Tiers 0)≤9223372036854775807)) <|
  upto (fun i8 (s8:Nat) nx8=>
   bnd (G6b p2) fun r14=>
   each (fun y29 i29 (s29:Nat) nx29=>
    need (decide (ys_[s29]? = some (Slot.mk (i2:Int) (i8:Int) y29))) <|
    nx29 (s29+1))
   (fun(s29:Nat)=>
    nx8 s29) r14 0 s8)
  (fun(s8:Nat)=>
   nx2 s8) (max y2.Tiers 0).toNat 0 s2)
 (fun(s2:Nat)=>
  need (decide (s2=ys_.length)) (some ())) p1.Columns 0 0
theorem Ja9 (p1:H0) (p2:Int) (ys_:List Slot) (q_:Unit) (h:Gf9 p1 p2 ys_=some q_):Iter Ej 168 [.dptr (H0.cs p1),.dptr [U8 p2]] (ys_.map (fun y:Slot=>[.agg [I64 y.G3,I64 y.Tier,U8 y.Half]])):=by
 unfold Gf9 at h
 refine Rcc Tryz.func168 O O ?_
 intro E hE hys
 refine G22 (fun K1 hK1=>Rk (J9 (u:=Eb p1) hE (Ga Hh O O O) ?_ O O O O))
 refine J9 (u:=E5 p1.Columns) hE (Ge Ho O O O) ?_ O O O O
 refine Q63 hE (f:=G3.av) (xs:=p1.Columns) H6 O O (fun hm11=>?_) O O O
 refine J9 (u:=I64 0) hE (G4 O O) ?_ O O O O
 refine G11 ?_
 refine hK1 _ _ _ (H29 ?_)
 obtain⟨b2,kx2,hb2,hkx2,h⟩:=Hv h
 refine J88 (fun i2 (s2:Nat)=>each b2 kx2 (List.drop i2 p1.Columns) i2 s2=some q_) (fun i2 s2=>[(0,.sc (.func (.yield E.lp) #[] #[])),(2,.dptr [U8 p2]),(10,E5 p1.Columns),(11,Ei p1.Columns.length),(12,Ei i2)]) (fun i2 s2=>[]) (fun i2 s2=>s2) (fun i2=>p1.Columns.length - i2) 0 0 h ⟨(.sm O O),G,rfl⟩ rfl ?_
 clear h
 intro i2 s2 hi2 K2 e2
 refine G22 (fun K3 hK3=>Rk (J9 (u:=BL (decide ((i2:Int) < (p1.Columns.length:Int)))) hE (Hy O O O) ?_ O O O O))
 refine G11 ?_
 refine hK3 _ _ _ (G22 (fun K4 hK4=>H91 O (fun hb=>?_) (fun hb=>?_)))
 ·
  have hk2:=J8 hb
  obtain⟨y2,nx2,hy2,hn2,h⟩:=Hj hi2 hk2
  replace h:=R8 hb2 h
  refine Hd2 (hK4 _ _ _ (G22 (fun K5 hK5=>H29 (G22 (fun K6 hK6=>Rk (J9 (u:=Ei i2) hE (G4 O O) ?_ O O O O))))))
  refine J9 (u:=Ed y2) hE (Gv (f:=G3.av) (xs:=p1.Columns) (y:=y2) O O O H6 hy2 O) ?_ O O O O
  refine J9 (u:=.agg (G3.cs y2)) hE (Gg Y6 O O O) ?_ O O O O
  refine J9 (u:=.ptr 1211 0) hE (Jn 1211 12 G76 O O) ?_ O O O O
  refine J9 (u:=Ei i2) hE (G6 O O) ?_ O O O O
  refine Rc8 (u:=.junk) hE (J5 (u:=.agg (G3.cs y2)) (ds:=(G3.cs y2)) Gd3 O O O O O O O O) ?_ O O O
  refine G11 ?_
  refine hK6 _ _ _ (G22 (fun K7 hK7=>Rk (J9 (u:=.ptr 1211 3) hE (G14 Zn O O) ?_ O O O O)))
  refine J9 (u:=I64 y2.Tiers) hE (G04 Gb O O O O) ?_ O O O O
  refine J9 (u:=I64 (max y2.Tiers 0)) hE (Ycc O O O) ?_ O O O O
  refine J9 (u:=I64 0) hE (G4 O O) ?_ O O O O
  refine G11 ?_
  refine hK7 _ _ _ (H29 ?_)
  obtain⟨hx8,h⟩:=Hp h
  obtain⟨b8,kx8,hb8,hkx8,h⟩:=G8a h
  refine J88 (fun i8 (s8:Nat)=>upto b8 kx8 ((max y2.Tiers 0).toNat - i8) i8 s8=some q_) (fun i8 s8=>[(0,.sc (.func (.yield E.lp) #[] #[])),(2,.dptr [U8 p2]),(4,Ei i2),(10,E5 p1.Columns),(11,Ei p1.Columns.length),(12,Ei i2),(19,I64 (max y2.Tiers 0)),(20,Ei i8)]) (fun i8 s8=>[(1211,.box 64 (G3.cs y2))]) (fun i8 s8=>s8) (fun i8=>(max y2.Tiers 0).toNat - i8) 0 s2 h ⟨(.sm O O),⟨⟨_,rfl,.boxL rfl (.sm O O)⟩,G⟩,rfl⟩ rfl ?_
  clear h
  intro i8 s8 hi8 K8 e8
  refine G22 (fun K9 hK9=>Rk (J9 (u:=BL (decide ((i8:Int) < (max y2.Tiers 0)))) hE (Hy O O O) ?_ O O O O))
  refine G11 ?_
  refine hK9 _ _ _ (G22 (fun K10 hK10=>H91 O (fun hb=>?_) (fun hb=>?_)))
  ·
   have hk8:=G5d hb
   obtain⟨nx8,hn8,h⟩:=G58 hi8 hk8
   replace h:=J02 hb8 h
   refine Hd2 (hK10 _ _ _ (G22 (fun K11 hK11=>H29 (G22 (fun K12 hK12=>Rk (J9 (u:=Ei i8) hE (G4 O O) ?_ O O O O))))))
   refine J9 (u:=Ei i8) hE (G6 O O) ?_ O O O O
   refine G11 ?_
   refine hK12 _ _ _ (G22 (fun K13 hK13=>Rk (J9 (u:=U8 p2) hE (Ge J6 O O O) ?_ O O O O)))
   obtain⟨r14,hr14,h⟩:=Gd h
   refine J9 (u:=Ea r14) hE (Gi O (Hd6 p2 r14 hr14) Jc1 ⟨O,O,G⟩) ?_ O O O O
   refine Q63 hE (f:=U8) (xs:=r14) Gaa O O (fun hm25=>?_) O O O
   refine J9 (u:=I64 0) hE (G4 O O) ?_ O O O O
   refine G11 ?_
   refine hK13 _ _ _ (H29 ?_)
   obtain⟨b29,kx29,hb29,hkx29,h⟩:=Hv h
   refine J88 (fun i29 (s29:Nat)=>each b29 kx29 (List.drop i29 r14) i29 s29=some q_) (fun i29 s29=>[(0,.sc (.func (.yield E.lp) #[] #[])),(2,.dptr [U8 p2]),(4,Ei i2),(6,Ei i8),(10,E5 p1.Columns),(11,Ei p1.Columns.length),(12,Ei i2),(19,I64 (max y2.Tiers 0)),(20,Ei i8),(24,Ea r14),(25,Ei r14.length),(26,Ei i29)]) (fun i29 s29=>[(1211,.box 64 (G3.cs y2))]) (fun i29 s29=>s29) (fun i29=>r14.length - i29) 0 s8 h ⟨(.sm O O),⟨⟨_,rfl,.boxL rfl (.sm O O)⟩,G⟩,rfl⟩ rfl ?_
   clear h
   intro i29 s29 hi29 K29 e29
   refine G22 (fun K30 hK30=>Rk (J9 (u:=BL (decide ((i29:Int) < (r14.length:Int)))) hE (Hy O O O) ?_ O O O O))
   refine G11 ?_
   refine hK30 _ _ _ (G22 (fun K31 hK31=>H91 O (fun hb=>?_) (fun hb=>?_)))
   ·
    have hk29:=J8 hb
    obtain⟨y29,nx29,hy29,hn29,h⟩:=Hj hi29 hk29
    replace h:=R8 hb29 h
    refine Hd2 (hK31 _ _ _ (G22 (fun K32 hK32=>H29 (G22 (fun K33 hK33=>Rk (J9 (u:=.dptr [U8 y29]) hE (Gv (f:=U8) (xs:=r14) (y:=y29) O O O Gaa hy29 O) ?_ O O O O))))))
    refine J9 (u:=U8 y29) hE (Ge J6 O O O) ?_ O O O O
    refine J9 (u:=U8 y29) hE (G6 O O) ?_ O O O O
    refine G11 ?_
    refine hK33 _ _ _ (G22 (fun K34 hK34=>Rk (J9 (u:=.sc (.func (.yield E.lp) #[] #[])) hE (G4 O O) ?_ O O O O)))
    refine J9 (u:=Ei i2) hE (G4 O O) ?_ O O O O
    refine J9 (u:=Ei i8) hE (G4 O O) ?_ O O O O
    refine J9 (u:=U8 y29) hE (G4 O O) ?_ O O O O
    refine J9 (u:=.agg [Ei i2,Ei i8,U8 y29]) hE (Jk (cs:=[Ei i2,Ei i8,U8 y29]) [(0,1),(1,1),(2,1)] [I64 0,I64 0,U8 0] [E0,E0,.int .u8 0] G79 Gd1 ⟨.inl O,.inl O,.inl O,G⟩ O O) ?_ O O O O
    obtain⟨ha35,h⟩:=Hp h
    refine Y01 (us:=[.agg [Ei i2,Ei i8,U8 y29]]) hE O O ⟨O,O,G⟩ (Y0d (f:=(fun y:Slot=>[.agg [I64 y.G3,I64 y.Tier,U8 y.Half]])) (x:=(Slot.mk (i2:Int) (i8:Int) y29)) hys ha35) ?_ O O O
    refine J9 (u:=BL false) hE (Q3 (b:=true) O O) ?_ O O O O
    refine G11 ?_
    refine hK34 _ _ _ (Y36 O (Hd2 (hK32 _ _ _ (Rk (J9 (u:=I64 ((i29+1:Nat):Int)) hE (Ht (Hb hk29 hm25) O O O) ?_ O O O O)))))
    refine J9 (u:=I64 ((i29+1:Nat):Int)) hE (G4 O O) ?_ O O O O
    refine G11 ?_
    exact e29 _ _ (i29+1) (s29+1) _ (app1 hn29 h) (by omega) ⟨(.sm O O),⟨⟨_,rfl,.boxL rfl (.sm O O)⟩,G⟩,rfl⟩ rfl
   ·
    have h:=app1 hkx29 (Hk hi29 (H3 hb))
    refine Jf2 (hK11 _ _ _ (Rk (J9 (u:=I64 ((i8+1:Nat):Int)) hE (Ht (Hb hk8 (G36 hx8)) O O O) ?_ O O O O)))
    refine J9 (u:=I64 ((i8+1:Nat):Int)) hE (G4 O O) ?_ O O O O
    refine G11 ?_
    exact e8 _ _ (i8+1) s29 _ (app1 hn8 h) (by omega) ⟨(.sm O O),⟨⟨_,rfl,.boxL rfl (.sm O O)⟩,G⟩,rfl⟩ rfl
  ·
   have h:=app1 hkx8 (G59 hi8 (Yi hb))
   refine Jf2 (hK5 _ _ _ (Rk (J9 (u:=I64 ((i2+1:Nat):Int)) hE (Ht (Hb hk2 hm11) O O O) ?_ O O O O)))
   refine J9 (u:=I64 ((i2+1:Nat):Int)) hE (G4 O O) ?_ O O O O
   refine G11 ?_
   exact e2 _ _ (i2+1) s8 _ (app1 hn2 h) (by omega) ⟨(.sm O O),G,rfl⟩ rfl
 ·
  have h:=app1 hkx2 (Hk hi2 (H3 hb))
  refine Jf2 (Qb7 (Hp h).1)
theorem Jaa (S_:(H0)→(Int)→Option (List Slot)) (hS_:∀ p1 p2 r,S_ p1 p2=some r→Gf9 p1 p2 r=some ()) (p1:H0) (p2:Int) (r:List Slot) (h:S_ p1 p2=some r):Iter Ej 168 [.dptr (H0.cs p1),.dptr [U8 p2]] (r.map (fun y:Slot=>[.agg [I64 y.G3,I64 y.Tier,U8 y.Half]])):=Ja9 p1 p2 r () (hS_ p1 p2 r h)
end
end Go.Proofs.YthcpolfodgjekaaGreat
