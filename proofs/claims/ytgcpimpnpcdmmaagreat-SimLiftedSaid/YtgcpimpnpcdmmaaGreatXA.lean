/- Walks of functions. -/
import Derived.Test.YtgcpimpnpcdmmaaGreatSortLay
import Derived.Test.YtgcpimpnpcdmmaaGreatSeq
set_option maxRecDepth 100000
set_option maxHeartbeats 1000000
set_option linter.unusedVariables false
set_option linter.unusedSimpArgs false
namespace Go.Proofs.YtgcpimpnpcdmmaaGreat
open Go.RowKit
noncomputable section
abbrev En:=Tryz.prog
structure Hm where
 n:Int
 low:Int
 high:Int
 deriving DecidableEq,Inhabited
def Hm.cs (x:Hm):List AV:=[I64 x.n,I64 x.low,I64 x.high]
def Hm.av (x:Hm):AV:=.agg x.cs
structure G3 where
 Bay:Int
 Row:Int
 Deck:Bool
 Tiers:Int
 Height:Int
 Kilos20:Int
 Kilos40:Int
 Lash:Int
 Plugs:List Int
 X:Int
 Y:Int
 Z:Int
 deriving DecidableEq,Inhabited
def G3.cs (x:G3):List AV:=[I64 x.Bay,I64 x.Row,BL x.Deck,I64 x.Tiers,I64 x.Height,I64 x.Kilos20,I64 x.Kilos40,I64 x.Lash,E2 x.Plugs,I64 x.X,I64 x.Y,I64 x.Z]
def G3.av (x:G3):AV:=.agg x.cs
abbrev Ej (x:G3):AV:=.dptr (G3.cs x)
abbrev E3:=LS 12 G3.av
structure G9 where
 Bay:Int
 Rows:List Int
 deriving DecidableEq,Inhabited
def G9.cs (x:G9):List AV:=[I64 x.Bay,E2 x.Rows]
def G9.av (x:G9):AV:=.agg x.cs
abbrev E8:=LS 2 G9.av
structure Light where
 Kilos:Int
 X:Int
 Y:Int
 Z:Int
 deriving DecidableEq,Inhabited
def Light.cs (x:Light):List AV:=[I64 x.Kilos,I64 x.X,I64 x.Y,I64 x.Z]
def Light.av (x:Light):AV:=.agg x.cs
structure Row where
 Draught:Int
 Kilos:Int
 Buoy:Int
 Metacentre:Int
 Z1b:Int
 deriving DecidableEq,Inhabited
def Row.cs (x:Row):List AV:=[I64 x.Draught,I64 x.Kilos,I64 x.Buoy,I64 x.Metacentre,I64 x.Z1b]
def Row.av (x:Row):AV:=.agg x.cs
abbrev E4:=LS 5 Row.av
structure Frame where
 X:Int
 Light:Int
 Share:Int
 Shear:Int
 Bend:Int
 deriving DecidableEq,Inhabited
def Frame.cs (x:Frame):List AV:=[I64 x.X,I64 x.Light,I64 x.Share,I64 x.Shear,I64 x.Bend]
def Frame.av (x:Frame):AV:=.agg x.cs
abbrev E5:=LS 5 Frame.av
structure H2 where
 Kilos:Int
 X:Int
 Y:Int
 Z:Int
 Surface:Int
 Steps:List Int
 deriving DecidableEq,Inhabited
def H2.cs (x:H2):List AV:=[I64 x.Kilos,I64 x.X,I64 x.Y,I64 x.Z,I64 x.Surface,E2 x.Steps]
def H2.av (x:H2):AV:=.agg x.cs
abbrev E6:=LS 6 H2.av
structure G8 where
 Tolerance:Int
 Trim:Int
 List_:Int
 Stability:Int
 deriving DecidableEq,Inhabited
def G8.cs (x:G8):List AV:=[I64 x.Tolerance,I64 x.Trim,I64 x.List_,I64 x.Stability]
def G8.av (x:G8):AV:=.agg x.cs
structure Gi where
 Columns:List G3
 Covers:List G9
 Light:Light
 Rows:List Row
 Frames:List Frame
 Tanks:List H2
 G8:G8
 deriving DecidableEq,Inhabited
def Gi.cs (x:Gi):List AV:=[E3 x.Columns,E8 x.Covers,I64 x.Light.Kilos,I64 x.Light.X,I64 x.Light.Y,I64 x.Light.Z,E4 x.Rows,E5 x.Frames,E6 x.Tanks,I64 x.G8.Tolerance,I64 x.G8.Trim,I64 x.G8.List_,I64 x.G8.Stability]
def Gi.av (x:Gi):AV:=.agg x.cs
abbrev Ee (x:Gi):AV:=.dptr (Gi.cs x)
structure Hf where
 e0:Int
 e1:Int
 e2:Int
 deriving DecidableEq,Inhabited
def Hf.cs (x:Hf):List AV:=[I64 x.e0,I64 x.e1,I64 x.e2]
def Hf.av (x:Hf):AV:=.agg x.cs
def Hf.ks (x:Hf):List Value:=[.int .i64 x.e0,.int .i64 x.e1,.int .i64 x.e2]
def Hf.kv (x:Hf):Value:=.agg x.ks.toArray
structure Slot where
 G3:Int
 Tier:Int
 Half:Int
 deriving DecidableEq,Inhabited
def Slot.cs (x:Slot):List AV:=[I64 x.G3,I64 x.Tier,U8 x.Half]
def Slot.av (x:Slot):AV:=.agg x.cs
abbrev Ek (x:Slot):AV:=.dptr (Slot.cs x)
abbrev E9:=LS 3 Slot.av
namespace XAF
theorem Z91 (a b:Hf):Jb2 En 4 172 [.int .i64 a.e0,.int .i64 a.e1,.int .i64 a.e2] [.int .i64 b.e0,.int .i64 b.e1,.int .i64 b.e2]=some (decide (a=b)):=by
 refine(show _=some ((a.e0==b.e0)&&((a.e1==b.e1)&&((a.e2==b.e2)&&true))) by kernel_rfl).trans (congrArg some ?_)
 rw [Bool.eq_iff_iff]
 simp only [Mj,beq_iff_eq,Mk,Bool.and_true]
 constructor
 ·intro h; obtain⟨_,_,_⟩:=a; obtain⟨_,_,_⟩:=b; simp_all
 ·intro h; subst h; simp
theorem Hfe:H35 En 100 2=true:=by kernel_rfl
theorem Y30:H35 En 208 3=true:=by kernel_rfl
theorem Gb3:H35 En 97 12=true:=by kernel_rfl
theorem Qaf:Za1 En 172 3 1=true:=by kernel_rfl
theorem Rb2:H0 En 109=true:=by kernel_rfl
theorem Q3a:H0 En 113=true:=by kernel_rfl
theorem Q35:H0 En 142=true:=by kernel_rfl
theorem H07:Ju En 100 0 0=true:=by kernel_rfl
theorem G54:Ju En 100 1 1=true:=by kernel_rfl
theorem J38:Ju En 208 0 0=true:=by kernel_rfl
theorem Q8a:Ju En 208 1 1=true:=by kernel_rfl
theorem Q89:Ju En 208 2 2=true:=by kernel_rfl
theorem J8:Ju En 36 0 0=true:=by kernel_rfl
theorem Y5:Ju En 36 1 1=true:=by kernel_rfl
theorem G20:Ju En 97 0 0=true:=by kernel_rfl
theorem G87:Ju En 97 1 1=true:=by kernel_rfl
theorem J37:Ju En 97 10 10=true:=by kernel_rfl
theorem H80:Ju En 97 11 11=true:=by kernel_rfl
theorem Yj:Ju En 97 2 2=true:=by kernel_rfl
theorem H3d:Ju En 97 3 3=true:=by kernel_rfl
theorem Hc8:Ju En 97 4 4=true:=by kernel_rfl
theorem R0d:Ju En 97 5 5=true:=by kernel_rfl
theorem R0c:Ju En 97 6 6=true:=by kernel_rfl
theorem R0b:Ju En 97 7 7=true:=by kernel_rfl
theorem J87:Ju En 97 8 8=true:=by kernel_rfl
theorem J86:Ju En 97 9 9=true:=by kernel_rfl
theorem Ge5:Zb En 171 172 3=true:=by kernel_rfl
theorem J9:En.follows .mixedOrders=true:=by kernel_rfl
theorem Yi:placesOf En 208=some [(0,1),(1,1),(2,1)]:=by kernel_rfl
theorem H05:placesOf En 57=some [(0,1),(1,1),(2,1)]:=by kernel_rfl
theorem Jp:R5 En 26=true:=by kernel_rfl
theorem Zt:R5 En 27=true:=by kernel_rfl
theorem Gb:R5 En 3=true:=by kernel_rfl
theorem Qb:R5 En 4=true:=by kernel_rfl
theorem Rn:R5 En 49=true:=by kernel_rfl
theorem Hx:R5 En 5=true:=by kernel_rfl
theorem Q32:Y7 En 100 2=true:=by kernel_rfl
theorem R95:Y7 En 208 3=true:=by kernel_rfl
theorem H27:Y7 En 97 12=true:=by kernel_rfl
theorem Gb2:sliceB En 176 5 1=true:=by kernel_rfl
theorem H71:sliceB En 206 208 3=true:=by kernel_rfl
theorem Hy:sliceB En 26 97 12=true:=by kernel_rfl
theorem Qj:sliceB En 27 100 2=true:=by kernel_rfl
theorem H1:sliceB En 49 3 1=true:=by kernel_rfl
theorem Q2f:(En.info? 172).bind (fun i=>i.zero.map Value.cells)=some (List.toArray [E0,E0,E0]):=by kernel_rfl
theorem G01:(En.info? 208).bind (fun i=>i.zero.map Value.cells)=some (List.toArray [E0,E0,E0]):=by kernel_rfl
theorem Ge3:(En.info? 57).bind (fun i=>i.zero.map Value.cells)=some (List.toArray [E0,E0,.int .u8 0]):=by kernel_rfl
theorem H03:R1 En 100 2=true:=by kernel_rfl
theorem Hf7:R1 En 208 3=true:=by kernel_rfl
theorem Q81:R1 En 5 1=true:=by kernel_rfl
theorem G35:R1 En 97 12=true:=by kernel_rfl
theorem H3c:(En.info? 3).bind (·.zero)=some E0:=by kernel_rfl
theorem Q02:Gef En 172 Hf.kv:=Gef.of_eq Hf.ks (by kernel_rfl) (fun a b h=>by simp only [Hf.ks,List.cons.injEq,Value.int.injEq,Value.bool.injEq,Value.string.injEq,true_and,and_true] at h; obtain⟨_,_,_⟩:=a; obtain⟨_,_,_⟩:=b; simp_all) 4 (by decide) (fun a b=>Z91 a b) (fun a=>by kernel_rfl) (fun a=>by simp [Instr.sameBits,Hf.ks])
end XAF
open XAF

def G5e (l:List Hm):Option Bool:=
 each (fun a d (c:Unit) b=>
  bif ((decide (a.n < a.low))||(decide (a.high < a.n))) then
  (some false)
  else
  (b ()))
 (fun(c:Unit)=>
  some true) l 0 ()
theorem Hec (l:List Hm) (r:Bool) (h:G5e l=some r):Pure En 142 [LS 3 Hm.av l] (·=BL r):=by
 unfold G5e at h
 refine Gx [.tmp 2] Tryz.func142 O O (Jr fun x=>(JLm (BL false) O (G5 (x (Js fun z=>Jr fun a0=>(JLm (LS 3 Hm.av l) O (JLl H71 O O O fun a1=>(JLm (I64 0) O (G5 (a0 (Gq ?_)))))))))))
 obtain⟨a2,i,j,g,h⟩:=Jc h
 refine Hn (fun b (c:Unit)=>each a2 i (List.drop b l) b c=some r) (fun b c=>[(5,LS 3 Hm.av l),(6,Em l.length),(7,Em b)]) (fun b c=>[]) (fun b=>l.length - b) 0 () h ⟨(.sm O O),ø,O⟩ ?_
 clear h
 intro b c d a5 a3
 refine Jr fun k=>(JLh (BL (decide ((b:Int) < (l.length:Int)))) (Jo O O O) O (G5 (k (Js fun m=>Gr O (fun hb=>?_) (fun hb=>?_)))))
 ·
  have e:=Q1 hb
  obtain⟨a,a4,o,p,h⟩:=Ht d e
  replace h:=Zn j h
  refine Gm (m (Js fun q=>Gq (Jr fun s=>(JLh (.dptr [I64 a.n,I64 a.low,I64 a.high]) (Hb (f:=Hm.av) (xs:=l) (y:=a) O O O H71 o O) O (JLh (.agg [I64 a.n,I64 a.low,I64 a.high]) (Gk Y30 O O O) O (JLh (.ptr 1202 0) (Hk 1202 3 Hf7 O O) O (Ho (u:=.junk) (H7 (u:=.agg [I64 a.n,I64 a.low,I64 a.high]) (ds:=[I64 a.n,I64 a.low,I64 a.high]) R95 O O O O O O O O) (G5 (s (fzQ [(4,.dptr [I64 a.n,I64 a.low,I64 a.high]),(5,LS 3 Hm.av l),(6,Em l.length),(7,Em b)] [] 1202 rfl rfl rfl ø rfl ?_))))))))))
  refine Jr fun t=>(JLh (.dptr [I64 a.n,I64 a.low,I64 a.high]) (Ga J38 O O O) O (JLh (I64 a.n) (Gg Gb O O O) O (JLh (.dptr [I64 a.low,I64 a.high]) (Ga Q8a O O O) O (JLh (I64 a.low) (Gg Gb O O O) O (JLh (BL (decide (a.n < a.low))) (Jo O O O) O (JLm (BL (decide (a.n < a.low))) O (JLo (.dptr [I64 a.n,I64 a.low,I64 a.high]) [] O .scf ø (fun hc=>Ga J38 O O O) O (JLo (I64 a.n) [17] O .scf ⟨Ua,ø⟩ (fun hc=>Gg Gb O O O) O (JLo (.dptr [I64 a.high]) [] O .scf ø (fun hc=>Ga Q89 O O O) O (JLo (I64 a.high) [19] O .scf ⟨Ua,ø⟩ (fun hc=>Gg Gb O O O) O (JLo (BL (decide (a.high < a.n))) [18,20] O .scf ⟨Ua,Ua,ø⟩ (fun hc=>H01 O O O) O (JLh (BL ((decide (a.n < a.low))||(decide (a.high < a.n)))) (G94 O O O O) O (G5 (t ?_))))))))))))))
  refine JCc O h ?_ ?_<;>intro h hb
  ·
   refine Jr fun v=>(JLm (BL false) O (G5 (v (Gs (fin1 BL h)))))
  ·
   refine Gm (q (G2 (JLh (I64 ((b+1:Nat):Int)) (Ja (Hp e a1) O O O) O (JLm (I64 ((b+1:Nat):Int)) O (G5 (a3 _ _ (b+1) () (app1 p h) (by omega) ⟨(.sm O O),ø,rfl⟩))))))
 ·
  have h:=app1 g (Hu d (Hh hb))
  refine Hr (z (Jr fun w=>(JLm (BL true) O (G5 (w (Gs (fin1 BL h)))))))

def Gbe (c:G3):Option Bool:=
 each (fun d a (f:Unit) e=>
  wrp (c.Tiers - 1) fun g=>
  bnd (G5e [(Hm.mk d 0 g)]) fun b=>
  bnd (bif ((!(!b))&&(decide (0 < (a:Int)))) then some (IntKind.i64.wrap ((a:Int) - 1)) else some 0) fun h=>
  bnd (bif ((!(!b))&&(decide (0 < (a:Int)))) then Qw c.Plugs h some else some default) fun i=>
  bif ((!b)||((decide (0 < (a:Int)))&&(decide (d≤i)))) then
  (some false)
  else
  (e ()))
 (fun(f:Unit)=>
  bnd (G5e [(Hm.mk c.Bay 0 39),(Hm.mk c.Row 0 30),(Hm.mk c.Tiers 1 10),(Hm.mk c.Height 0 40000),(Hm.mk c.Kilos20 0 500000000),(Hm.mk c.Kilos40 0 500000000),(Hm.mk c.Lash 0 1000000000000),(Hm.mk c.X (-500000) 500000),(Hm.mk c.Y (-500000) 500000),(Hm.mk c.Z (-500000) 500000)]) fun j=>
  some j) c.Plugs 0 ()
abbrev Eo (c:G3):List AV:=[I64 c.Tiers,I64 c.Height,I64 c.Kilos20,I64 c.Kilos40,I64 c.Lash,E2 c.Plugs,I64 c.X,I64 c.Y,I64 c.Z]
theorem Qf5 (c:G3) (r:Bool) (h:Gbe c=some r):Pure En 109 [.agg (G3.cs c)] (·=BL r):=by
 unfold Gbe at h
 refine Gx [.tmp 2] Tryz.func109 O O (Jr fun a7=>(JLh (.ptr 1180 0) (Q4 (cs:=(G3.cs c)) 1180 O O O O O) O (JLm (BL false) O (G5 (a7 (Gn [(1,Ej c)] [] 1180 rfl rfl rfl ø rfl (by exact⟨.ptr,ø⟩) (Jr fun a8=>(JLm (.fn 142 []) O (G5 (a8 (Js fun a9=>Jr fun b0=>(JLh (.dptr [E2 c.Plugs,I64 c.X,I64 c.Y,I64 c.Z]) (Ga J87 O O O) O (JLh (E2 c.Plugs) (Gg Rn O O O) O (JLl H1 O O O fun b1=>(JLm (I64 0) O (G5 (b0 (Gq ?_))))))))))))))))))
 obtain⟨b2,o,p,n,h⟩:=Jc h
 refine Hn (fun a (j:Unit)=>each b2 o (List.drop a c.Plugs) a j=some r) (fun a j=>[(1,Ej c),(3,.fn 142 []),(7,E2 c.Plugs),(8,Em c.Plugs.length),(9,Em a)]) (fun a j=>[]) (fun a=>c.Plugs.length - a) 0 () h ⟨(.sm O O),ø,rfl⟩ ?_
 clear h
 intro a j k b6 b3
 refine Jr fun q=>(JLh (BL (decide ((a:Int) < (c.Plugs.length:Int)))) (Jo O O O) O (G5 (q (Js fun s=>Gr O (fun hb=>?_) (fun hb=>?_)))))
 ·
  have l:=Q1 hb
  obtain⟨d,b5,t,v,h⟩:=Ht k l
  replace h:=Zn p h
  refine Gm (s (Js fun w=>Gq (Jr fun x=>(JLm (Em a) O (JLh (.dptr [I64 d]) (Hb (f:=I64) (xs:=c.Plugs) (y:=d) O O O H1 t O) O (JLh (I64 d) (Gg Gb O O O) O (JLm (Em a) O (JLm (I64 d) O (G5 (x (Jr fun z=>(JLm (.fn 142 []) O (JLm (I64 d) O (JLh (.dptr (Eo c)) (Ga H3d O O O) O (JLh (I64 c.Tiers) (Gg Gb O O O) O ?_)))))))))))))))
  obtain⟨e,a0,h⟩:=Z3d h
  refine JLh (I64 e) (G84 a0 O O O) O (JLh (.agg [I64 d,I64 0,I64 e]) (Hg (cs:=[I64 d,I64 0,I64 e]) [(0,1),(1,1),(2,1)] [I64 0,I64 0,I64 0] [E0,E0,E0] Yi G01 (zzQ O) O O) O (JLh (LS 3 Hm.av [(Hm.mk d 0 e)]) (He (xs:=[.agg [I64 d,I64 0,I64 e]]) O ⟨O,O,ø⟩ H71 Hf7 O O O O) O ?_))
  obtain⟨g,a1,h⟩:=Ge h
  refine JLh (BL g) (G1b (args:=[LS 3 Hm.av [(Hm.mk d 0 e)]]) (caps:=[]) O O (Hec [(Hm.mk d 0 e)] g a1) Q35 ⟨O,O,ø⟩ O) O (JLh (BL (!g)) (Y8 (b:=g) O O) O (JLm (BL (!g)) O (JLo (Em a) [] O .scf ø (fun hc=>G6 O O) O (JLo (BL (decide (0 < (a:Int)))) [24] O .scf ⟨Ua,ø⟩ (fun hc=>H01 O O O) O (JLo (BL (decide (0 < (a:Int)))) [25] O .scf ⟨Ua,ø⟩ (fun hc=>G6 O O) O (JLo (I64 d) [] O .optt ø (fun hc=>G6 O O) O (JLo (.dptr [E2 c.Plugs,I64 c.X,I64 c.Y,I64 c.Z]) [] O .optt ø (fun hc=>Ga J87 O O O) O (JLo (E2 c.Plugs) [28] O .optt ⟨Ua,ø⟩ (fun hc=>Gg Rn O O O) O (JLo (Em a) [] O .optt ø (fun hc=>G6 O O) O ?_)))))))))
  obtain⟨b4,a2,h⟩:=Ge h
  refine JLo (I64 b4) [30] O .optt ⟨Ua,ø⟩ (fun hc=>G84 (M7 (H4 hc a2)) O O O) O ?_
  obtain⟨i,a3,h⟩:=Ge h
  refine JLo (.dptr [I64 i]) [29,31] O .optt ⟨Ua,Ua,ø⟩ (fun hc=>(match Gba (H4 hc a3) with | ⟨_,hm_,hy_⟩=>Hb (f:=I64) (xs:=c.Plugs) (y:=i) O O O H1 hy_ hm_)) O (JLo (I64 i) [32] O .optt ⟨Ua,ø⟩ (fun hc=>Gg Gb O O O) O (JLo (BL (decide (d≤i))) [27,33] O .optt ⟨Ua,Ua,ø⟩ (fun hc=>Hc5 O O O) O (Gj (u:=BL ((decide (0 < (a:Int)))&&(decide (d≤i)))) [(26,BL (decide (0 < (a:Int)))),(34,_)] O O O .scf ⟨.all id,.part,ø⟩ (fun hc=>Y4 O O O O) ?_)))
  refine JLh (BL ((!g)||((decide (0 < (a:Int)))&&(decide (d≤i))))) (G94 O O O O) O (G5 (z (JCc O h (fun h hb=>?_) (fun h hb=>?_))))
  ·
   refine Jr fun a4=>(JLm (BL false) O (G5 (a4 (Gs (fin1 BL h)))))
  ·
   refine Gm (w (G2 (JLh (I64 ((a+1:Nat):Int)) (Ja (Hp l b1) O O O) O (JLm (I64 ((a+1:Nat):Int)) O (G5 (b3 _ _ (a+1) () (app1 v h) (by omega) ⟨(.sm O O),ø,rfl⟩))))))
 ·
  have h:=app1 n (Hu k (Hh hb))
  refine Hr (a9 ?_)
  refine Jr fun a5=>(JLm (.fn 142 []) O (JLh (Ej c) (Ga G20 O O O) O (JLh (I64 c.Bay) (Gg Gb O O O) O (JLh (.agg [I64 c.Bay,I64 0,I64 39]) (Hg (cs:=[I64 c.Bay,I64 0,I64 39]) [(0,1),(1,1),(2,1)] [I64 0,I64 0,I64 0] [E0,E0,E0] Yi G01 (zzQ O) O O) O (JLh (.dptr [I64 c.Row,BL c.Deck,I64 c.Tiers,I64 c.Height,I64 c.Kilos20,I64 c.Kilos40,I64 c.Lash,E2 c.Plugs,I64 c.X,I64 c.Y,I64 c.Z]) (Ga G87 O O O) O (JLh (I64 c.Row) (Gg Gb O O O) O (JLh (.agg [I64 c.Row,I64 0,I64 30]) (Hg (cs:=[I64 c.Row,I64 0,I64 30]) [(0,1),(1,1),(2,1)] [I64 0,I64 0,I64 0] [E0,E0,E0] Yi G01 (zzQ O) O O) O (JLh (.dptr (Eo c)) (Ga H3d O O O) O (JLh (I64 c.Tiers) (Gg Gb O O O) O (JLh (.agg [I64 c.Tiers,I64 1,I64 10]) (Hg (cs:=[I64 c.Tiers,I64 1,I64 10]) [(0,1),(1,1),(2,1)] [I64 0,I64 0,I64 0] [E0,E0,E0] Yi G01 (zzQ O) O O) O (JLh (.dptr [I64 c.Height,I64 c.Kilos20,I64 c.Kilos40,I64 c.Lash,E2 c.Plugs,I64 c.X,I64 c.Y,I64 c.Z]) (Ga Hc8 O O O) O (JLh (I64 c.Height) (Gg Gb O O O) O (JLh (.agg [I64 c.Height,I64 0,I64 40000]) (Hg (cs:=[I64 c.Height,I64 0,I64 40000]) [(0,1),(1,1),(2,1)] [I64 0,I64 0,I64 0] [E0,E0,E0] Yi G01 (zzQ O) O O) O ?_)))))))))))))
  refine JLh (.dptr [I64 c.Kilos20,I64 c.Kilos40,I64 c.Lash,E2 c.Plugs,I64 c.X,I64 c.Y,I64 c.Z]) (Ga R0d O O O) O (JLh (I64 c.Kilos20) (Gg Gb O O O) O (JLh (.agg [I64 c.Kilos20,I64 0,I64 500000000]) (Hg (cs:=[I64 c.Kilos20,I64 0,I64 500000000]) [(0,1),(1,1),(2,1)] [I64 0,I64 0,I64 0] [E0,E0,E0] Yi G01 (zzQ O) O O) O (JLh (.dptr [I64 c.Kilos40,I64 c.Lash,E2 c.Plugs,I64 c.X,I64 c.Y,I64 c.Z]) (Ga R0c O O O) O (JLh (I64 c.Kilos40) (Gg Gb O O O) O (JLh (.agg [I64 c.Kilos40,I64 0,I64 500000000]) (Hg (cs:=[I64 c.Kilos40,I64 0,I64 500000000]) [(0,1),(1,1),(2,1)] [I64 0,I64 0,I64 0] [E0,E0,E0] Yi G01 (zzQ O) O O) O (JLh (.dptr [I64 c.Lash,E2 c.Plugs,I64 c.X,I64 c.Y,I64 c.Z]) (Ga R0b O O O) O (JLh (I64 c.Lash) (Gg Gb O O O) O (JLh (.agg [I64 c.Lash,I64 0,I64 1000000000000]) (Hg (cs:=[I64 c.Lash,I64 0,I64 1000000000000]) [(0,1),(1,1),(2,1)] [I64 0,I64 0,I64 0] [E0,E0,E0] Yi G01 (zzQ O) O O) O (JLh (.dptr [I64 c.X,I64 c.Y,I64 c.Z]) (Ga J86 O O O) O (JLh (I64 c.X) (Gg Gb O O O) O (JLh (.agg [I64 c.X,I64 (-500000),I64 500000]) (Hg (cs:=[I64 c.X,I64 (-500000),I64 500000]) [(0,1),(1,1),(2,1)] [I64 0,I64 0,I64 0] [E0,E0,E0] Yi G01 (zzQ O) O O) O (JLh (.dptr [I64 c.Y,I64 c.Z]) (Ga J37 O O O) O (JLh (I64 c.Y) (Gg Gb O O O) O ?_)))))))))))))
  refine JLh (.agg [I64 c.Y,I64 (-500000),I64 500000]) (Hg (cs:=[I64 c.Y,I64 (-500000),I64 500000]) [(0,1),(1,1),(2,1)] [I64 0,I64 0,I64 0] [E0,E0,E0] Yi G01 (zzQ O) O O) O (JLh (.dptr [I64 c.Z]) (Ga H80 O O O) O (JLh (I64 c.Z) (Gg Gb O O O) O (JLh (.agg [I64 c.Z,I64 (-500000),I64 500000]) (Hg (cs:=[I64 c.Z,I64 (-500000),I64 500000]) [(0,1),(1,1),(2,1)] [I64 0,I64 0,I64 0] [E0,E0,E0] Yi G01 (zzQ O) O O) O (JLh (LS 3 Hm.av [(Hm.mk c.Bay 0 39),(Hm.mk c.Row 0 30),(Hm.mk c.Tiers 1 10),(Hm.mk c.Height 0 40000),(Hm.mk c.Kilos20 0 500000000),(Hm.mk c.Kilos40 0 500000000),(Hm.mk c.Lash 0 1000000000000),(Hm.mk c.X (-500000) 500000),(Hm.mk c.Y (-500000) 500000),(Hm.mk c.Z (-500000) 500000)]) (He (xs:=[.agg [I64 c.Bay,I64 0,I64 39],.agg [I64 c.Row,I64 0,I64 30],.agg [I64 c.Tiers,I64 1,I64 10],.agg [I64 c.Height,I64 0,I64 40000],.agg [I64 c.Kilos20,I64 0,I64 500000000],.agg [I64 c.Kilos40,I64 0,I64 500000000],.agg [I64 c.Lash,I64 0,I64 1000000000000],.agg [I64 c.X,I64 (-500000),I64 500000],.agg [I64 c.Y,I64 (-500000),I64 500000],.agg [I64 c.Z,I64 (-500000),I64 500000]]) O ⟨O,O,O,O,O,O,O,O,O,O,O,O,O,O,O,O,O,O,O,O,ø⟩ H71 Hf7 O O O O) O ?_))))
  obtain⟨m,a6,h⟩:=Ge h
  refine JLh (BL m) (G1b (args:=[LS 3 Hm.av [(Hm.mk c.Bay 0 39),(Hm.mk c.Row 0 30),(Hm.mk c.Tiers 1 10),(Hm.mk c.Height 0 40000),(Hm.mk c.Kilos20 0 500000000),(Hm.mk c.Kilos40 0 500000000),(Hm.mk c.Lash 0 1000000000000),(Hm.mk c.X (-500000) 500000),(Hm.mk c.Y (-500000) 500000),(Hm.mk c.Z (-500000) 500000)]]) (caps:=[]) O O (Hec [(Hm.mk c.Bay 0 39),(Hm.mk c.Row 0 30),(Hm.mk c.Tiers 1 10),(Hm.mk c.Height 0 40000),(Hm.mk c.Kilos20 0 500000000),(Hm.mk c.Kilos40 0 500000000),(Hm.mk c.Lash 0 1000000000000),(Hm.mk c.X (-500000) 500000),(Hm.mk c.Y (-500000) 500000),(Hm.mk c.Z (-500000) 500000)] m a6) Q35 ⟨O,O,ø⟩ O) O (JLm (BL m) O (G5 (a5 (Gs (fin1 BL h)))))

def H18 (s:Gi) (Rp:Bool→Prop):Option Prop:=
 bif (((decide ((s.Columns.length:Int) < 1))||(decide (200 < (s.Columns.length:Int))))||(decide (40 < (s.Covers.length:Int)))) then
 (some (Rp false))
 else
 (each (fun c y (f:(H8 Hf Int)) m=>
   jp (fun g=>
    bif c.Deck then
    (g 1)
    else
    (g 0)) fun(k:Int)=>
   bnd (some (H8.get f (Hf.mk c.Bay c.Row k) 0)) fun v=>
   chk (v+1) fun w=>
   bnd (Gbe c) fun x=>
   bif (!x) then
   (some (Rp false))
   else
   (m (H8.put f (Hf.mk c.Bay c.Row k) w)))
  (fun(f:(H8 Hf Int))=>
   each (fun b z (h:(H8 Hf Int)) n=>
    bif (((decide (b.Bay < 0))||(decide (40≤b.Bay)))||(decide ((b.Rows.length:Int)=0))) then
    (some (Rp false))
    else
    (each (fun a d (e:(H8 Hf Int)) i=>
      bnd (bif ((!((decide (a < 0))||(decide (30 < a))))&&(decide (0 < (d:Int)))) then chk ((d:Int) - 1) some else some 0) fun o=>
      bnd (bif ((!((decide (a < 0))||(decide (30 < a))))&&(decide (0 < (d:Int)))) then Qw b.Rows o some else some default) fun p=>
      bif (((decide (a < 0))||(decide (30 < a)))||((decide (0 < (d:Int)))&&(decide (a≤p)))) then
      (some (Rp false))
      else
      (bnd (some (H8.get e (Hf.mk b.Bay a 2) 0)) fun q=>
       chk (q+1) fun r=>
       i (H8.put e (Hf.mk b.Bay a 2) r)))
     (fun(e:(H8 Hf Int))=>
      n e) b.Rows 0 h))
   (fun(h:(H8 Hf Int))=>
    J1f (fun(t:Hf×Int) (u:Unit) j=>
     bif decide (1 < t.2) then
     (lft (some (Rp false)))
     else
     (j ()))
    (fun(u:Unit)=>
     some (Rp true)) (H8.l h) ()) s.Covers 0 f) s.Columns 0 (H8.empty:H8 Hf Int))
def H79 (s:Gi):Option Bool:=
 bif (((decide ((s.Columns.length:Int) < 1))||(decide (200 < (s.Columns.length:Int))))||(decide (40 < (s.Covers.length:Int)))) then
 (some (id false))
 else
 (each (fun c y (f:(H8 Hf Int)) m=>
   jp (fun g=>
    bif c.Deck then
    (g 1)
    else
    (g 0)) fun(k:Int)=>
   bnd (some (H8.get f (Hf.mk c.Bay c.Row k) 0)) fun v=>
   chk (v+1) fun w=>
   bnd (Gbe c) fun x=>
   bif (!x) then
   (some (id false))
   else
   (m (H8.put f (Hf.mk c.Bay c.Row k) w)))
  (fun(f:(H8 Hf Int))=>
   each (fun b z (h:(H8 Hf Int)) n=>
    bif (((decide (b.Bay < 0))||(decide (40≤b.Bay)))||(decide ((b.Rows.length:Int)=0))) then
    (some (id false))
    else
    (each (fun a d (e:(H8 Hf Int)) i=>
      bnd (bif ((!((decide (a < 0))||(decide (30 < a))))&&(decide (0 < (d:Int)))) then chk ((d:Int) - 1) some else some 0) fun o=>
      bnd (bif ((!((decide (a < 0))||(decide (30 < a))))&&(decide (0 < (d:Int)))) then Qw b.Rows o some else some default) fun p=>
      bif (((decide (a < 0))||(decide (30 < a)))||((decide (0 < (d:Int)))&&(decide (a≤p)))) then
      (some (id false))
      else
      (bnd (some (H8.get e (Hf.mk b.Bay a 2) 0)) fun q=>
       chk (q+1) fun r=>
       i (H8.put e (Hf.mk b.Bay a 2) r)))
     (fun(e:(H8 Hf Int))=>
      n e) b.Rows 0 h))
   (fun(h:(H8 Hf Int))=>
    H0b (fun(t:Hf×Int) (u:Unit) j=>
     bif decide (1 < t.2) then
     (lft (some (id false)))
     else
     (j ()))
    (fun(u:Unit)=>
     some (id true)) (H8.l h) ()) s.Covers 0 f) s.Columns 0 (H8.empty:H8 Hf Int))
abbrev Ep (s:Gi):List AV:=[E8 s.Covers,I64 s.Light.Kilos,I64 s.Light.X,I64 s.Light.Y,I64 s.Light.Z,E4 s.Rows,E5 s.Frames,E6 s.Tanks,I64 s.G8.Tolerance,I64 s.G8.Trim,I64 s.G8.List_,I64 s.G8.Stability]
theorem Qf6 (s:Gi) (Rp:Bool→Prop) (p:Prop) (h:H18 s Rp=some p) (hp:p):Pure En 60 [.agg (Gi.cs s)] (fun av=>∃ r,Rp r∧av=BL r):=by
 unfold H18 at h
 refine Gx [.tmp 2] Tryz.func60 O O (Jr fun i8=>(JLh (.ptr 1116 0) (Q4 (cs:=(Gi.cs s)) 1116 O O O O O) O (JLm (BL false) O (G5 (i8 (Gn [(1,Ee s)] [] 1116 rfl rfl rfl ø rfl (by exact⟨.ptr,ø⟩) (Js fun i9=>?_)))))))
 refine Jr fun j0=>(JLh (Ee s) (Ga J8 O O O) O (JLh (E3 s.Columns) (Gg Jp O O O) O (JLl Hy O O O fun k2=>(JLh (BL (decide ((s.Columns.length:Int) < 1))) (Jo O O O) O (JLm (BL (decide ((s.Columns.length:Int) < 1))) O (JLo (Ee s) [] O .scf ø (fun hc=>Ga J8 O O O) O (JLo (E3 s.Columns) [18] O .scf ⟨Ua,ø⟩ (fun hc=>Gg Jp O O O) O (JLo (Em s.Columns.length) [19] O .scf ⟨Ua,ø⟩ (fun hc=>H69 (f:=G3.av) (xs:=s.Columns) Hy O O) O (JLo (BL (decide (200 < (s.Columns.length:Int)))) [20] O .scf ⟨Ua,ø⟩ (fun hc=>H01 O O O) O (JLh (BL ((decide ((s.Columns.length:Int) < 1))||(decide (200 < (s.Columns.length:Int))))) (G94 O O O O) O (JLm (BL ((decide ((s.Columns.length:Int) < 1))||(decide (200 < (s.Columns.length:Int))))) O (JLo (.dptr (Ep s)) [] O .scf ø (fun hc=>Ga Y5 O O O) O (JLo (E8 s.Covers) [24] O .scf ⟨Ua,ø⟩ (fun hc=>Gg Zt O O O) O ?_)))))))))))))
 refine JLo (Em s.Covers.length) [25] O .scf ⟨Ua,ø⟩ (fun hc=>H69 (f:=G9.av) (xs:=s.Covers) Qj O O) O (JLo (BL (decide (40 < (s.Covers.length:Int)))) [26] O .scf ⟨Ua,ø⟩ (fun hc=>H01 O O O) O (JLh (BL (((decide ((s.Columns.length:Int) < 1))||(decide (200 < (s.Columns.length:Int))))||(decide (40 < (s.Covers.length:Int))))) (G94 O O O O) O (G5 (j0 (JCc O h (fun h hb=>?_) (fun h hb=>?_))))))
 ·
  refine Jr fun j1=>(JLm (BL false) O (G5 (j1 (Gs (⟨[BL false],[],ø,O,⟨⟨_,O,.conv (.same O)⟩,ø⟩,O,false,Eq.mpr (M7 h) hp,O⟩)))))
 ·
  refine Gm (i9 (Jr fun j2=>(JLh (.mp 1119) (Ha4 1119 Hf.kv I64 O O) O (JLm (.mp 1119) O (G5 (j2 (Js fun j3=>Jr fun j4=>(JLh (Ee s) (Ga J8 O O O) O (JLh (E3 s.Columns) (Gg Jp O O O) O (JLl Hy O O O fun f0=>(JLm (I64 0) O (G5 (j4 (Gq ?_))))))))))))))
  obtain⟨j5,f1,f2,c4,h⟩:=Jc h
  refine Hn (fun o (k:(H8 Hf Int))=>each j5 f1 (List.drop o s.Columns) o k=some p) (fun o k=>[(1,Ee s),(3,.mp 1119),(31,E3 s.Columns),(32,Em s.Columns.length),(33,Em o)]) (fun o k=>[(1119,MP 171 Hf.kv I64 k)]) (fun o=>s.Columns.length - o) 0 (H8.empty:H8 Hf Int) h ⟨(.sm O O),⟨fmQ O,ø⟩,rfl⟩ ?_
  clear h
  intro o k b5 k8 j6
  refine Jr fun f3=>(JLh (BL (decide ((o:Int) < (s.Columns.length:Int)))) (Jo O O O) O (G5 (f3 (Js fun f4=>Gr O (fun hb=>?_) (fun hb=>?_)))))
  ·
   have b6:=Q1 hb
   obtain⟨g,k3,f5,f6,h⟩:=Ht b5 b6
   replace h:=Zn f2 h
   refine Gm (f4 (Js fun f7=>Gq (Jr fun f8=>(JLh (Ej g) (Hb (f:=G3.av) (xs:=s.Columns) (y:=g) O O O Hy f5 O) O (JLh (.agg (G3.cs g)) (Gk Gb3 O O O) O (JLh (.ptr 1117 0) (Hk 1117 12 G35 O O) O (Ho (u:=.junk) (H7 (u:=.agg (G3.cs g)) (ds:=(G3.cs g)) H27 O O O O O O O O) (G5 (f8 ?_)))))))))
   refine fzQ [(1,Ee s),(3,.mp 1119),(5,Ej g),(31,E3 s.Columns),(32,Em s.Columns.length),(33,Em o)] [(1119,MP 171 Hf.kv I64 k)] 1117 rfl rfl rfl ⟨fmQ O,ø⟩ rfl (Jr fun f9=>(JLm (I64 0) O (G5 (f9 ?_))))
   obtain⟨g0,c5,h⟩:=Rm h
   refine Qi (fun n:Int=>g0 n=some p) (fun n=>[(1,Ee s),(3,.mp 1119),(5,Ej g),(6,I64 n),(31,E3 s.Columns),(32,Em s.Columns.length),(33,Em o)]) (fun n=>[(1119,MP 171 Hf.kv I64 k)]) (fun Kj74 ej74=>?_) ?_
   ·
    refine Jr fun g1=>(JLh (.dptr ((G3.cs g).drop 2)) (Ga Yj O O O) O (JLh (BL g.Deck) (Gg Qb O O O) O (G5 (g1 (JCc O h (fun h hb=>?_) (fun h hb=>?_))))))
    ·
     refine G2 (JLm (I64 1) O (G5 (ej74 _ _ 1 h ⟨(.sm O O),⟨fmQ O,ø⟩,rfl⟩)))
    ·
     refine Gm (ej74 _ _ 0 h ⟨(.sm O O),⟨fmQ O,ø⟩,rfl⟩)
   ·intro n h
    replace h:=app1 c5 h
    refine Js fun g2=>Qs (l':=[(1,Ee s),(3,.mp 1119),(5,Ej g),(6,I64 n),(31,E3 s.Columns),(32,Em s.Columns.length),(33,Em o)]) (L':=[(1119,MP 171 Hf.kv I64 k)]) ⟨(.sm O O),⟨fmQ O,ø⟩,rfl⟩ ?_
    obtain⟨j7,b7,h⟩:=Ge h
    obtain⟨a4,b8,h⟩:=J0 h
    refine Jq [9,11] [0,0,0,0,0,0,0,0,0,0,1,0] [0,0,0,0,0,0,0,1,1,0,1,0] [[(1119,MP 171 Hf.kv I64 k)],((1119,MI 171 Hf.kv I64 k (Hf.mk g.Bay g.Row n) 0)::[(1119,MP 171 Hf.kv I64 k)]),((1119,MP 171 Hf.kv I64 (H8.put k (Hf.mk g.Bay g.Row n) a4))::((1119,MI 171 Hf.kv I64 k (Hf.mk g.Bay g.Row n) 0)::[(1119,MP 171 Hf.kv I64 k)]))] J9 (by kernel_rfl) rfl rfl ?_
    refine Gd (u:=.mp 1119) O O ⟨Gh (G6 O O) O,ø⟩ (Gd (u:=Ej g) O O ⟨Gh (Ga G20 O O O) O,ø⟩ (Gd (u:=I64 g.Bay) O O ⟨Gh (Gg Gb O O O) O,ø⟩ (Gd (u:=.dptr ((G3.cs g).drop 1)) O O ⟨Gh (Ga G87 O O O) O,ø⟩ (Gd (u:=I64 g.Row) O O ⟨Gh (Gg Gb O O O) O,ø⟩ (Gd (u:=I64 n) O O ⟨Gh (G6 O O) O,ø⟩ (Gd (u:=.agg [I64 g.Bay,I64 g.Row,I64 n]) O O ⟨Gh (R06 (cs:=[I64 g.Bay,I64 g.Row,I64 n]) [E0,E0,E0] Qaf Q2f O O) O,ø⟩ (Gd (u:=I64 j7) O O ⟨Gh (((M7 b7) ▸ Jc0 (av:=I64) (m:=k) (a:=(Hf.mk g.Bay g.Row n)) 0 E0 O O O O Q02 Ge5 H3c O)) O,Gh (((M7 b7) ▸ R03 (av:=I64) (m:=k) (a:=(Hf.mk g.Bay g.Row n)) 0 E0 O O O O Q02 Ge5 H3c O)) O,ø⟩ (Gd (u:=I64 a4) O O ⟨Gh (Ja b8 O O O) O,Gh (Ja b8 O O O) O,ø⟩ (D_w (u:=.tup [.junk,I64 (G3b (H8.l k) (Hf.mk g.Bay g.Row n):Int)]) O O O O (Gh (Q64 (m:=k) (a:=(Hf.mk g.Bay g.Row n)) 0 E0 O O O O Q02 Ge5 H3c O) O) (Gd (u:=I64 (G3b (H8.l k) (Hf.mk g.Bay g.Row n):Int)) O O ⟨Gh (Gz O O O) O,ø⟩ (H3a (u:=.junk) O O O O (Gh (J97 (m:=k) (a:=(Hf.mk g.Bay g.Row n)) (v:=a4) 0 O O O O O O) O) (Rj ?_))))))))))))
    refine g2 (Jr fun g3=>(JLh (.agg (G3.cs g)) (Gk Gb3 O O O) O ?_))
    obtain⟨a5,g4,h⟩:=Ge h
    refine JLh (BL a5) (Gu O (Qf5 g a5 g4) Rb2 ⟨O,O,ø⟩) O (JLh (BL (!a5)) (Y8 (b:=a5) O O) O (G5 (g3 (JCc O h (fun h hb=>?_) (fun h hb=>?_)))))
    ·
     refine Jr fun g5=>(JLm (BL false) O (G5 (g5 (Gs (⟨[BL false],[],ø,O,⟨⟨_,O,.conv (.same O)⟩,ø⟩,O,false,Eq.mpr (M7 h) hp,O⟩)))))
    ·
     refine Gm (f7 (G2 (JLh (I64 ((o+1:Nat):Int)) (Ja (Hp b6 f0) O O O) O (JLm (I64 ((o+1:Nat):Int)) O (G5 (j6 _ _ (o+1) (H8.put k (Hf.mk g.Bay g.Row n) a4) (app1 f6 h) (by omega) ⟨(.sm O O),⟨fmQ O,ø⟩,rfl⟩))))))
  ·
   have h:=app1 c4 (Hu b5 (Hh hb))
   refine Hr (j3 (Js fun g6=>Jr fun g7=>(JLh (.dptr (Ep s)) (Ga Y5 O O O) O (JLh (E8 s.Covers) (Gg Zt O O O) O (JLl Qj O O O fun g8=>(JLm (I64 0) O (G5 (g7 (Gq ?_)))))))))
   obtain⟨j8,g9,h0,c6,h⟩:=Jc h
   refine Hn (fun t (w:(H8 Hf Int))=>each j8 g9 (List.drop t s.Covers) t w=some p) (fun t w=>[(3,.mp 1119),(55,E8 s.Covers),(56,Em s.Covers.length),(57,Em t)]) (fun t w=>[(1119,MP 171 Hf.kv I64 w)]) (fun t=>s.Covers.length - t) 0 k h ⟨(.sm O O),⟨fmQ O,ø⟩,rfl⟩ ?_
   clear h
   intro t w b9 k9 j9
   refine Jr fun h1=>(JLh (BL (decide ((t:Int) < (s.Covers.length:Int)))) (Jo O O O) O (G5 (h1 (Js fun h2=>Gr O (fun hb=>?_) (fun hb=>?_)))))
   ·
    have c0:=Q1 hb
    obtain⟨c,k4,h3,h4,h⟩:=Ht b9 c0
    replace h:=Zn h0 h
    refine Gm (h2 (Js fun h5=>Gq (Jr fun h6=>(JLh (.dptr [I64 c.Bay,E2 c.Rows]) (Hb (f:=G9.av) (xs:=s.Covers) (y:=c) O O O Qj h3 O) O (JLh (.agg [I64 c.Bay,E2 c.Rows]) (Gk Hfe O O O) O (JLh (.ptr 1118 0) (Hk 1118 2 H03 O O) O (Ho (u:=.junk) (H7 (u:=.agg [I64 c.Bay,E2 c.Rows]) (ds:=[I64 c.Bay,E2 c.Rows]) Q32 O O O O O O O O) (G5 (h6 (fzQ [(3,.mp 1119),(8,.dptr [I64 c.Bay,E2 c.Rows]),(55,E8 s.Covers),(56,Em s.Covers.length),(57,Em t)] [(1119,MP 171 Hf.kv I64 w)] 1118 rfl rfl rfl ⟨fmQ O,ø⟩ rfl (Js fun h7=>?_)))))))))))
    refine Jr fun h8=>(JLh (.dptr [I64 c.Bay,E2 c.Rows]) (Ga H07 O O O) O (JLh (I64 c.Bay) (Gg Gb O O O) O (JLh (BL (decide (c.Bay < 0))) (Jo O O O) O (JLm (BL (decide (c.Bay < 0))) O (JLo (.dptr [I64 c.Bay,E2 c.Rows]) [] O .scf ø (fun hc=>Ga H07 O O O) O (JLo (I64 c.Bay) [65] O .scf ⟨Ua,ø⟩ (fun hc=>Gg Gb O O O) O (JLo (BL (decide (40≤c.Bay))) [66] O .scf ⟨Ua,ø⟩ (fun hc=>H24 O O O) O (JLh (BL ((decide (c.Bay < 0))||(decide (40≤c.Bay)))) (G94 O O O O) O (JLm (BL ((decide (c.Bay < 0))||(decide (40≤c.Bay)))) O (JLo (.dptr [E2 c.Rows]) [] O .scf ø (fun hc=>Ga G54 O O O) O (JLo (E2 c.Rows) [70] O .scf ⟨Ua,ø⟩ (fun hc=>Gg Rn O O O) O (JLo (Em c.Rows.length) [71] O .scf ⟨Ua,ø⟩ (fun hc=>H69 (f:=I64) (xs:=c.Rows) H1 O O) O (JLo (BL (decide ((c.Rows.length:Int)=0))) [72] O .scf ⟨Ua,ø⟩ (fun hc=>Qk O O O) O ?_)))))))))))))
    refine JLh (BL (((decide (c.Bay < 0))||(decide (40≤c.Bay)))||(decide ((c.Rows.length:Int)=0)))) (G94 O O O O) O (G5 (h8 (JCc O h (fun h hb=>?_) (fun h hb=>?_))))
    ·
     refine Jr fun h9=>(JLm (BL false) O (G5 (h9 (Gs (⟨[BL false],[],ø,O,⟨⟨_,O,.conv (.same O)⟩,ø⟩,O,false,Eq.mpr (M7 h) hp,O⟩)))))
    ·
     refine Gm (h7 (Jr fun i0=>(JLh (.dptr [E2 c.Rows]) (Ga G54 O O O) O (JLh (E2 c.Rows) (Gg Rn O O O) O (JLl H1 O O O fun i1=>(JLm (I64 0) O (G5 (i0 (Gq ?_)))))))))
     obtain⟨i2,c7,c8,c1,h⟩:=Jc h
     refine Hn (fun i (j:(H8 Hf Int))=>each i2 c7 (List.drop i c.Rows) i j=some p) (fun i j=>[(3,.mp 1119),(8,.dptr [I64 c.Bay,E2 c.Rows]),(55,E8 s.Covers),(56,Em s.Covers.length),(57,Em t),(76,E2 c.Rows),(77,Em c.Rows.length),(78,Em i)]) (fun i j=>[(1119,MP 171 Hf.kv I64 j)]) (fun i=>c.Rows.length - i) 0 w h ⟨(.sm O O),⟨fmQ O,ø⟩,rfl⟩ ?_
     clear h
     intro i j a6 k5 i3
     refine Jr fun c9=>(JLh (BL (decide ((i:Int) < (c.Rows.length:Int)))) (Jo O O O) O (G5 (c9 (Js fun d0=>Gr O (fun hb=>?_) (fun hb=>?_)))))
     ·
      have a7:=Q1 hb
      obtain⟨d,k0,d1,d2,h⟩:=Ht a6 a7
      replace h:=Zn c8 h
      refine Gm (d0 (Js fun d3=>Gq (Jr fun d4=>(JLm (Em i) O (JLh (.dptr [I64 d]) (Hb (f:=I64) (xs:=c.Rows) (y:=d) O O O H1 d1 O) O (JLh (I64 d) (Gg Gb O O O) O (JLm (Em i) O (JLm (I64 d) O (G5 (d4 (Js fun d5=>?_)))))))))))
      refine Jr fun d6=>(JLm (I64 d) O (JLh (BL (decide (d < 0))) (Jo O O O) O (JLm (BL (decide (d < 0))) O (JLo (I64 d) [] O .scf ø (fun hc=>G6 O O) O (JLo (BL (decide (30 < d))) [86] O .scf ⟨Ua,ø⟩ (fun hc=>H01 O O O) O (JLh (BL ((decide (d < 0))||(decide (30 < d)))) (G94 O O O O) O (JLm (BL ((decide (d < 0))||(decide (30 < d)))) O (JLo (Em i) [] O .scf ø (fun hc=>G6 O O) O (JLo (BL (decide (0 < (i:Int)))) [90] O .scf ⟨Ua,ø⟩ (fun hc=>H01 O O O) O (JLo (BL (decide (0 < (i:Int)))) [91] O .scf ⟨Ua,ø⟩ (fun hc=>G6 O O) O (JLo (I64 d) [] O .optt ø (fun hc=>G6 O O) O (JLo (.dptr [E2 c.Rows]) [] O .optt ø (fun hc=>Ga G54 O O O) O (JLo (E2 c.Rows) [94] O .optt ⟨Ua,ø⟩ (fun hc=>Gg Rn O O O) O ?_)))))))))))))
      refine JLo (Em i) [] O .optt ø (fun hc=>G6 O O) O ?_
      obtain⟨i4,d7,h⟩:=Ge h
      refine JLo (I64 i4) [96] O .optt ⟨Ua,ø⟩ (fun hc=>G84 (He6 (H4 hc d7)) O O O) O ?_
      obtain⟨a0,d8,h⟩:=Ge h
      refine JLo (.dptr [I64 a0]) [95,97] O .optt ⟨Ua,Ua,ø⟩ (fun hc=>(match Gba (H4 hc d8) with | ⟨_,hm_,hy_⟩=>Hb (f:=I64) (xs:=c.Rows) (y:=a0) O O O H1 hy_ hm_)) O (JLo (I64 a0) [98] O .optt ⟨Ua,ø⟩ (fun hc=>Gg Gb O O O) O (JLo (BL (decide (d≤a0))) [93,99] O .optt ⟨Ua,Ua,ø⟩ (fun hc=>Hc5 O O O) O (Gj (u:=BL ((decide (0 < (i:Int)))&&(decide (d≤a0)))) [(92,BL (decide (0 < (i:Int)))),(100,_)] O O O .scf ⟨.all id,.part,ø⟩ (fun hc=>Y4 O O O O) ?_)))
      refine JLh (BL (((decide (d < 0))||(decide (30 < d)))||((decide (0 < (i:Int)))&&(decide (d≤a0))))) (G94 O O O O) O (G5 (d6 (JCc O h (fun h hb=>?_) (fun h hb=>?_))))
      ·
       refine Jr fun d9=>(JLm (BL false) O (G5 (d9 (Gs (⟨[BL false],[],ø,O,⟨⟨_,O,.conv (.same O)⟩,ø⟩,O,false,Eq.mpr (M7 h) hp,O⟩)))))
      ·
       refine Gm (d5 (Qs (l':=[(3,.mp 1119),(8,.dptr [I64 c.Bay,E2 c.Rows]),(10,I64 d),(55,E8 s.Covers),(56,Em s.Covers.length),(57,Em t),(76,E2 c.Rows),(77,Em c.Rows.length),(78,Em i)]) (L':=[(1119,MP 171 Hf.kv I64 j)]) ⟨(.sm O O),⟨fmQ O,ø⟩,rfl⟩ ?_))
       obtain⟨i5,a8,h⟩:=Ge h
       obtain⟨a1,a9,h⟩:=J0 h
       refine Jq [7,9] [0,0,0,0,0,0,0,0,1,0] [0,0,0,0,0,1,1,0,1,0] [[(1119,MP 171 Hf.kv I64 j)],((1119,MI 171 Hf.kv I64 j (Hf.mk c.Bay d 2) 0)::[(1119,MP 171 Hf.kv I64 j)]),((1119,MP 171 Hf.kv I64 (H8.put j (Hf.mk c.Bay d 2) a1))::((1119,MI 171 Hf.kv I64 j (Hf.mk c.Bay d 2) 0)::[(1119,MP 171 Hf.kv I64 j)]))] J9 (by kernel_rfl) rfl rfl ?_
       refine Gd (u:=.mp 1119) O O ⟨Gh (G6 O O) O,ø⟩ (Gd (u:=.dptr [I64 c.Bay,E2 c.Rows]) O O ⟨Gh (Ga H07 O O O) O,ø⟩ (Gd (u:=I64 c.Bay) O O ⟨Gh (Gg Gb O O O) O,ø⟩ (Gd (u:=I64 d) O O ⟨Gh (G6 O O) O,ø⟩ (Gd (u:=.agg [I64 c.Bay,I64 d,I64 2]) O O ⟨Gh (R06 (cs:=[I64 c.Bay,I64 d,I64 2]) [E0,E0,E0] Qaf Q2f O O) O,ø⟩ (Gd (u:=I64 i5) O O ⟨Gh (((M7 a8) ▸ Jc0 (av:=I64) (m:=j) (a:=(Hf.mk c.Bay d 2)) 0 E0 O O O O Q02 Ge5 H3c O)) O,Gh (((M7 a8) ▸ R03 (av:=I64) (m:=j) (a:=(Hf.mk c.Bay d 2)) 0 E0 O O O O Q02 Ge5 H3c O)) O,ø⟩ (Gd (u:=I64 a1) O O ⟨Gh (Ja a9 O O O) O,Gh (Ja a9 O O O) O,ø⟩ (D_w (u:=.tup [.junk,I64 (G3b (H8.l j) (Hf.mk c.Bay d 2):Int)]) O O O O (Gh (Q64 (m:=j) (a:=(Hf.mk c.Bay d 2)) 0 E0 O O O O Q02 Ge5 H3c O) O) (Gd (u:=I64 (G3b (H8.l j) (Hf.mk c.Bay d 2):Int)) O O ⟨Gh (Gz O O O) O,ø⟩ (H3a (u:=.junk) O O O O (Gh (J97 (m:=j) (a:=(Hf.mk c.Bay d 2)) (v:=a1) 0 O O O O O O) O) (Rj ?_))))))))))
       refine d3 (G2 (JLh (I64 ((i+1:Nat):Int)) (Ja (Hp a7 i1) O O O) O (JLm (I64 ((i+1:Nat):Int)) O (G5 (i3 _ _ (i+1) (H8.put j (Hf.mk c.Bay d 2) a1) (app1 d2 h) (by omega) ⟨(.sm O O),⟨fmQ O,ø⟩,rfl⟩)))))
     ·
      have h:=app1 c1 (Hu a6 (Hh hb))
      refine Hr (h5 (G2 (JLh (I64 ((t+1:Nat):Int)) (Ja (Hp c0 g8) O O O) O (JLm (I64 ((t+1:Nat):Int)) O (G5 (j9 _ _ (t+1) j (app1 h4 h) (by omega) ⟨(.sm O O),⟨fmQ O,ø⟩,rfl⟩))))))
   ·
    have h:=app1 c6 (Hu b9 (Hh hb))
    refine Hr (g6 (Js fun e0=>Jr fun e1=>(JLm (.mp 1119) O (JLh (.it 1120) (Z2a 1120 (m:=w) O O O O Ge5) O (G5 (e1 (Gq ?_)))))))
    obtain⟨i6,e2,e3,c2,h⟩:=H56 h
    refine J5a (H8.size w) (fun x (a2:Unit)=>MInv i6 e2 (H8.l w) x a2) (fun x a2=>[(115,.it 1120)]) (fun x a2=>[(1119,MP 171 Hf.kv I64 w),(1120,.iter (.mp 1119) (H8.size w) x)]) () (MInv.start h hp) ⟨⟨.same O,ø⟩,⟨⟨_,O,.map⟩,⟨_,O,.iter O⟩,ø⟩,O⟩ ?_
    clear h hp
    intro x a2 b0 k6 i7
    refine Jr fun b1=>Yf O O O (Z6e (m:=w) O O O O) ?_
    intro u_ L_ hn_
    rcases hn_ with ⟨c3,z,a3,b2,rfl,rfl⟩ | ⟨e4,rfl,rfl⟩
    ·
     obtain⟨k7,h,b3,b4⟩:=b0.step a3 b2
     replace h:=Jb4 e3 h
     refine JLh (BL true) (Gz O O O) O (G5 (b1 (Js fun e5=>J5b O (Gm (e5 (Gq (Jr fun e6=>(JLh (.tup [.agg (Hf.cs z.1),I64 z.2]) (Z35 (kv:=Hf.kv) (av:=I64) (m:=w) (q:=c3) (seen:=x) (e:=z) O O O O a3) O (JLh (I64 z.2) (Gz O O O) O (JLm (I64 z.2) O (G5 (e6 (Jr fun e7=>(JLm (I64 z.2) O (JLh (BL (decide (1 < z.2))) (H01 O O O) O (G5 (e7 (JCc O h (fun h hb=>?_) (fun h hb=>?_)))))))))))))))))))
     ·
      refine Jr fun e8=>(JLm (BL false) O (G5 (e8 (Gs ?_))))
      obtain⟨y_,hy_,hl_⟩:=Y82 h
      exact⟨[BL false],[],ø,O,⟨⟨_,O,.conv (.same O)⟩,ø⟩,O,false,Eq.mpr (M7 hl_) (b3 y_ hy_),O⟩
     ·
      refine Gm (i7 _ _ (x++[c3]) () (b4 _ (M7 h).symm) (Gb1 (M5 a3).1 b2) ⟨⟨.same O,ø⟩,⟨⟨_,O,.map⟩,⟨_,O,.iter O⟩,ø⟩,O⟩)
    ·
     obtain⟨p_,h,hp⟩:=b0.done e4
     replace h:=app1 c2 h
     refine JLh (BL false) (Gz O O O) O (G5 (b1 (Js fun k1=>G2d O (Hr (e0 (Jr fun e9=>(JLm (BL true) O (G5 (e9 (Gs (⟨[BL true],[],ø,O,⟨⟨_,O,.conv (.same O)⟩,ø⟩,O,true,Eq.mpr (M7 h) hp,O⟩)))))))))))
theorem Qf7 (S_:(Gi)→Option Bool) (hS_:∀ s r,S_ s=some r→∃ p:Prop,H18 s (fun r_=>r_=r)=some p∧p) (s:Gi) (r:Bool) (h:S_ s=some r):Pure En 60 [.agg (Gi.cs s)] (·=BL r):=by
 obtain⟨p,a,b⟩:=hS_ s r h
 exact(Qf6 s _ p a b).monoP (fun av hh=>by obtain⟨r_,rfl,ha⟩:=hh; exact ha)

def G4c (size:Int):Option (List Int):=
 bif decide (size=40) then
 (some [0])
 else
 (bif decide (size=20) then
  (some [1,2])
  else
  (some []))
theorem J23 (size:Int) (r:(List Int)) (h:G4c size=some r):Pure En 113 [U8 size] (·=Eb r):=by
 unfold G4c at h
 refine Gx [.tmp 2] Tryz.func113 O O (Jr fun a=>(JLh (Eb ([]:List Int)) (Jh 1 O O) O (G5 (a (Js fun b=>Jr fun c=>(JLm (U8 size) O (G5 (c (Gq (Jr fun d=>(JLh (BL (decide (size=40))) (Qk O O O) O (JLm (BL (decide (size=40))) O (G5 (d (JCc O h (fun h hb=>?_) (fun h hb=>?_))))))))))))))))
 ·
  refine Jr fun e=>(JLh (Eb [0]) (He (xs:=[U8 0]) O ⟨O,O,ø⟩ Gb2 Q81 O O O O) O (JLm (Eb [0]) O (G5 (e (Gs (fin1 (fun r:(List Int)=>(Eb r:AV)) h))))))
 ·
  refine Jr fun f=>(JLh (BL (decide (size=20))) (Qk O O O) O (JLm (BL (decide (size=20))) O (G5 (f (JCc O h (fun h hb=>?_) (fun h hb=>?_))))))
  ·
   refine Jr fun g=>(JLh (Eb [1,2]) (He (xs:=[U8 1,U8 2]) O ⟨O,O,O,O,ø⟩ Gb2 Q81 O O O O) O (JLm (Eb [1,2]) O (G5 (g (Gs (fin1 (fun r:(List Int)=>(Eb r:AV)) h))))))
  ·
   refine Gm (b (Jr fun i=>(JLh (Eb ([]:List Int)) (Jh 1 O O) O (G5 (i (Gs (fin1 (fun r:(List Int)=>(Eb r:AV)) h)))))))

def H14 (j:Gi) (k:Int) (ys_:List Slot):Option Unit:=
 each (fun e l (b:Nat) f=>
  need (decide ((max e.Tiers 0)≤9223372036854775807)) <|
  upto (fun m (c:Nat) g=>
   bnd (G4c k) fun h=>
   each (fun i n (a:Nat) d=>
    need (decide (ys_[a]? = some (Slot.mk (l:Int) (m:Int) i))) <|
    d (a+1))
   (fun(a:Nat)=>
    g a) h 0 c)
  (fun(c:Nat)=>
   f c) (max e.Tiers 0).toNat 0 b)
 (fun(b:Nat)=>
  need (decide (b=ys_.length)) (some ())) j.Columns 0 0
theorem Q1e (e:Gi) (m:Int) (ys_:List Slot) (q_:Unit) (h:H14 e m ys_=some q_):Iter En 162 [.dptr (Gi.cs e),.dptr [U8 m]] (ys_.map (fun y:Slot=>[.agg [I64 y.G3,I64 y.Tier,U8 y.Half]])):=by
 unfold H14 at h
 refine Z65 Tryz.func162 O O ?_
 intro E hE hys
 refine Y3 (fun K1 b9=>Qn (Jm (u:=Ee e) hE (Ga J8 O O O) ?_ O O O O))
 refine Jm (u:=E3 e.Columns) hE (Gg Jp O O O) ?_ O O O O
 refine Ree hE (f:=G3.av) (xs:=e.Columns) Hy O O (fun w=>?_) O O O
 refine Jm (u:=I64 0) hE (G6 O O) ?_ O O O O
 refine Rz ?_
 refine b9 _ _ _ (G83 ?_)
 obtain⟨b2,c0,c1,z,h⟩:=Jc h
 refine Qfc (fun a (n:Nat)=>each b2 c0 (List.drop a e.Columns) a n=some q_) (fun a n=>[(0,.sc (.func (.yield E.lp) #[] #[])),(2,.dptr [U8 m]),(10,E3 e.Columns),(11,Em e.Columns.length),(12,Em a)]) (fun a n=>[]) (fun a n=>n) (fun a=>e.Columns.length - a) 0 0 h ⟨(.sm O O),ø,rfl⟩ rfl ?_
 clear h
 intro a n r K2 e2
 refine Y3 (fun K3 c2=>Qn (Jm (u:=BL (decide ((a:Int) < (e.Columns.length:Int)))) hE (Jo O O O) ?_ O O O O))
 refine Rz ?_
 refine c2 _ _ _ (Y3 (fun K4 c3=>Jf6 O (fun hb=>?_) (fun hb=>?_)))
 ·
  have s:=Q1 hb
  obtain⟨g,e1,c4,c5,h⟩:=Ht r s
  replace h:=Zn c1 h
  refine H49 (c3 _ _ _ (Y3 (fun K5 c6=>G83 (Y3 (fun K6 c7=>Qn (Jm (u:=Em a) hE (G6 O O) ?_ O O O O))))))
  refine Jm (u:=Ej g) hE (Hb (f:=G3.av) (xs:=e.Columns) (y:=g) O O O Hy c4 O) ?_ O O O O
  refine Jm (u:=.agg (G3.cs g)) hE (Gk Gb3 O O O) ?_ O O O O
  refine Jm (u:=.ptr 1206 0) hE (Hk 1206 12 G35 O O) ?_ O O O O
  refine Jm (u:=Em a) hE (G7 O O) ?_ O O O O
  refine Y94 (u:=.junk) hE (H7 (u:=.agg (G3.cs g)) (ds:=(G3.cs g)) H27 O O O O O O O O) ?_ O O O
  refine Rz ?_
  refine c7 _ _ _ (Y3 (fun K7 c8=>Qn (Jm (u:=.ptr 1206 3) hE (J4 H3d O O) ?_ O O O O)))
  refine Jm (u:=I64 g.Tiers) hE (J1 Gb O O O O) ?_ O O O O
  refine Jm (u:=I64 (max g.Tiers 0)) hE (Z89 O O O) ?_ O O O O
  refine Jm (u:=I64 0) hE (G6 O O) ?_ O O O O
  refine Rz ?_
  refine c8 _ _ _ (G83 ?_)
  obtain⟨c9,h⟩:=Ji h
  obtain⟨b8,d0,d1,a0,h⟩:=Hf5 h
  refine Qfc (fun c (l:Nat)=>upto b8 d0 ((max g.Tiers 0).toNat - c) c l=some q_) (fun c l=>[(0,.sc (.func (.yield E.lp) #[] #[])),(2,.dptr [U8 m]),(4,Em a),(10,E3 e.Columns),(11,Em e.Columns.length),(12,Em a),(19,I64 (max g.Tiers 0)),(20,Em c)]) (fun c l=>[(1206,.box 97 (G3.cs g))]) (fun c l=>l) (fun c=>(max g.Tiers 0).toNat - c) 0 n h ⟨(.sm O O),⟨fbQ O (.sm O O),ø⟩,rfl⟩ rfl ?_
  clear h
  intro c l t K8 e8
  refine Y3 (fun K9 d2=>Qn (Jm (u:=BL (decide ((c:Int) < (max g.Tiers 0)))) hE (Jo O O O) ?_ O O O O))
  refine Rz ?_
  refine d2 _ _ _ (Y3 (fun e3 a1=>Jf6 O (fun hb=>?_) (fun hb=>?_)))
  ·
   have v:=H8b hb
   obtain⟨e4,d3,h⟩:=H7e t v
   replace h:=Jb4 d1 h
   refine H49 (a1 _ _ _ (Y3 (fun e5 a2=>G83 (Y3 (fun e6 a3=>Qn (Jm (u:=Em c) hE (G6 O O) ?_ O O O O))))))
   refine Jm (u:=Em c) hE (G7 O O) ?_ O O O O
   refine Rz ?_
   refine a3 _ _ _ (Y3 (fun e7 a4=>Qn (Jm (u:=U8 m) hE (Gg Hx O O O) ?_ O O O O)))
   obtain⟨i,a5,h⟩:=Ge h
   refine Jm (u:=Eb i) hE (Gu O (J23 m i a5) Q3a ⟨O,O,ø⟩) ?_ O O O O
   refine Ree hE (f:=U8) (xs:=i) Gb2 O O (fun a6=>?_) O O O
   refine Jm (u:=I64 0) hE (G6 O O) ?_ O O O O
   refine Rz ?_
   refine a4 _ _ _ (G83 ?_)
   obtain⟨d4,a7,a8,q,h⟩:=Jc h
   refine Qfc (fun d (k:Nat)=>each d4 a7 (List.drop d i) d k=some q_) (fun d k=>[(0,.sc (.func (.yield E.lp) #[] #[])),(2,.dptr [U8 m]),(4,Em a),(6,Em c),(10,E3 e.Columns),(11,Em e.Columns.length),(12,Em a),(19,I64 (max g.Tiers 0)),(20,Em c),(24,Eb i),(25,Em i.length),(26,Em d)]) (fun d k=>[(1206,.box 97 (G3.cs g))]) (fun d k=>k) (fun d=>i.length - d) 0 l h ⟨(.sm O O),⟨fbQ O (.sm O O),ø⟩,rfl⟩ rfl ?_
   clear h
   intro d k o e9 d5
   refine Y3 (fun f0 a9=>Qn (Jm (u:=BL (decide ((d:Int) < (i.length:Int)))) hE (Jo O O O) ?_ O O O O))
   refine Rz ?_
   refine a9 _ _ _ (Y3 (fun f1 b0=>Jf6 O (fun hb=>?_) (fun hb=>?_)))
   ·
    have p:=Q1 hb
    obtain⟨j,e0,b1,b3,h⟩:=Ht o p
    replace h:=Zn a8 h
    refine H49 (b0 _ _ _ (Y3 (fun f2 b4=>G83 (Y3 (fun f3 b5=>Qn (Jm (u:=.dptr [U8 j]) hE (Hb (f:=U8) (xs:=i) (y:=j) O O O Gb2 b1 O) ?_ O O O O))))))
    refine Jm (u:=U8 j) hE (Gg Hx O O O) ?_ O O O O
    refine Jm (u:=U8 j) hE (G7 O O) ?_ O O O O
    refine Rz ?_
    refine b5 _ _ _ (Y3 (fun f4 b6=>Qn (Jm (u:=.sc (.func (.yield E.lp) #[] #[])) hE (G6 O O) ?_ O O O O)))
    refine Jm (u:=Em a) hE (G6 O O) ?_ O O O O
    refine Jm (u:=Em c) hE (G6 O O) ?_ O O O O
    refine Jm (u:=U8 j) hE (G6 O O) ?_ O O O O
    refine Jm (u:=.agg [Em a,Em c,U8 j]) hE (Hg (cs:=[Em a,Em c,U8 j]) [(0,1),(1,1),(2,1)] [I64 0,I64 0,U8 0] [E0,E0,.int .u8 0] H05 Ge3 (zzQ O) O O) ?_ O O O O
    obtain⟨b7,h⟩:=Ji h
    refine J79 (us:=[.agg [Em a,Em c,U8 j]]) hE O O ⟨O,O,ø⟩ (Ydd (f:=(fun y:Slot=>[.agg [I64 y.G3,I64 y.Tier,U8 y.Half]])) (x:=(Slot.mk (a:Int) (c:Int) j)) hys b7) ?_ O O O
    refine Jm (u:=BL false) hE (Y8 (b:=true) O O) ?_ O O O O
    refine Rz ?_
    refine b6 _ _ _ (Ha0 O (H49 (b4 _ _ _ (Qn (Jm (u:=I64 ((d+1:Nat):Int)) hE (Ja (Hp p a6) O O O) ?_ O O O O)))))
    refine Jm (u:=I64 ((d+1:Nat):Int)) hE (G6 O O) ?_ O O O O
    refine Rz ?_
    exact d5 _ _ (d+1) (k+1) _ (app1 b3 h) (by omega) ⟨(.sm O O),⟨fbQ O (.sm O O),ø⟩,rfl⟩ rfl
   ·
    have h:=app1 q (Hu o (Hh hb))
    refine J78 (a2 _ _ _ (Qn (Jm (u:=I64 ((c+1:Nat):Int)) hE (Ja (Hp v (H25 c9)) O O O) ?_ O O O O)))
    refine Jm (u:=I64 ((c+1:Nat):Int)) hE (G6 O O) ?_ O O O O
    refine Rz ?_
    exact e8 _ _ (c+1) k _ (app1 d3 h) (by omega) ⟨(.sm O O),⟨fbQ O (.sm O O),ø⟩,rfl⟩ rfl
  ·
   have h:=app1 a0 (H7f t (G72 hb))
   refine J78 (c6 _ _ _ (Qn (Jm (u:=I64 ((a+1:Nat):Int)) hE (Ja (Hp s w) O O O) ?_ O O O O)))
   refine Jm (u:=I64 ((a+1:Nat):Int)) hE (G6 O O) ?_ O O O O
   refine Rz ?_
   exact e2 _ _ (a+1) l _ (app1 c5 h) (by omega) ⟨(.sm O O),ø,rfl⟩ rfl
 ·
  have h:=app1 z (Hu r (Hh hb))
  refine J78 (Z3c (Ji h).1)
theorem Q1f (S_:(Gi)→(Int)→Option (List Slot)) (hS_:∀ a b r,S_ a b=some r→H14 a b r=some ()) (a:Gi) (b:Int) (r:List Slot) (h:S_ a b=some r):Iter En 162 [.dptr (Gi.cs a),.dptr [U8 b]] (r.map (fun y:Slot=>[.agg [I64 y.G3,I64 y.Tier,U8 y.Half]])):=Q1e a b r () (hS_ a b r h)
end
end Go.Proofs.YtgcpimpnpcdmmaaGreat
