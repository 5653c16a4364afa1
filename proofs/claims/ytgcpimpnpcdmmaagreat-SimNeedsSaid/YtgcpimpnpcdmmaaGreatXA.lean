/- Walks of functions. -/
import Derived.Test.YtgcpimpnpcdmmaaGreatSortLay
import Derived.Test.YtgcpimpnpcdmmaaGreatSeq
set_option maxRecDepth 100000
set_option maxHeartbeats 1000000
set_option linter.unusedVariables false
set_option linter.unusedSimpArgs false
namespace Go.Proofs.YtgcpimpnpcdmmaaGreat
open Go.RowKit
noncomputable section
abbrev En:=Tryz.prog
structure Hn where
 n:Int
 low:Int
 high:Int
 deriving DecidableEq,Inhabited
def Hn.cs (x:Hn):List AV:=[I64 x.n,I64 x.low,I64 x.high]
def Hn.av (x:Hn):AV:=.agg x.cs
structure G3 where
 Bay:Int
 Row:Int
 Deck:Bool
 Tiers:Int
 Height:Int
 Kilos20:Int
 Kilos40:Int
 Lash:Int
 Plugs:List Int
 X:Int
 Y:Int
 Z:Int
 deriving DecidableEq,Inhabited
def G3.cs (x:G3):List AV:=[I64 x.Bay,I64 x.Row,BL x.Deck,I64 x.Tiers,I64 x.Height,I64 x.Kilos20,I64 x.Kilos40,I64 x.Lash,E2 x.Plugs,I64 x.X,I64 x.Y,I64 x.Z]
def G3.av (x:G3):AV:=.agg x.cs
abbrev Ej (x:G3):AV:=.dptr (G3.cs x)
abbrev E3:=LS 12 G3.av
structure G9 where
 Bay:Int
 Rows:List Int
 deriving DecidableEq,Inhabited
def G9.cs (x:G9):List AV:=[I64 x.Bay,E2 x.Rows]
def G9.av (x:G9):AV:=.agg x.cs
abbrev E7:=LS 2 G9.av
structure Light where
 Kilos:Int
 X:Int
 Y:Int
 Z:Int
 deriving DecidableEq,Inhabited
structure Row where
 Draught:Int
 Kilos:Int
 Buoy:Int
 Metacentre:Int
 Z24:Int
 deriving DecidableEq,Inhabited
def Row.cs (x:Row):List AV:=[I64 x.Draught,I64 x.Kilos,I64 x.Buoy,I64 x.Metacentre,I64 x.Z24]
def Row.av (x:Row):AV:=.agg x.cs
abbrev E4:=LS 5 Row.av
structure Frame where
 X:Int
 Light:Int
 Share:Int
 Shear:Int
 Bend:Int
 deriving DecidableEq,Inhabited
def Frame.cs (x:Frame):List AV:=[I64 x.X,I64 x.Light,I64 x.Share,I64 x.Shear,I64 x.Bend]
def Frame.av (x:Frame):AV:=.agg x.cs
abbrev E5:=LS 5 Frame.av
structure H0 where
 Kilos:Int
 X:Int
 Y:Int
 Z:Int
 Surface:Int
 Steps:List Int
 deriving DecidableEq,Inhabited
def H0.cs (x:H0):List AV:=[I64 x.Kilos,I64 x.X,I64 x.Y,I64 x.Z,I64 x.Surface,E2 x.Steps]
def H0.av (x:H0):AV:=.agg x.cs
abbrev E6:=LS 6 H0.av
structure G8 where
 Tolerance:Int
 Trim:Int
 List_:Int
 Stability:Int
 deriving DecidableEq,Inhabited
structure Gj where
 Columns:List G3
 Covers:List G9
 Light:Light
 Rows:List Row
 Frames:List Frame
 Tanks:List H0
 G8:G8
 deriving DecidableEq,Inhabited
def Gj.cs (x:Gj):List AV:=[E3 x.Columns,E7 x.Covers,I64 x.Light.Kilos,I64 x.Light.X,I64 x.Light.Y,I64 x.Light.Z,E4 x.Rows,E5 x.Frames,E6 x.Tanks,I64 x.G8.Tolerance,I64 x.G8.Trim,I64 x.G8.List_,I64 x.G8.Stability]
abbrev Ee (x:Gj):AV:=.dptr (Gj.cs x)
structure Hg where
 e0:Int
 e1:Int
 e2:Int
 deriving DecidableEq,Inhabited
def Hg.cs (x:Hg):List AV:=[I64 x.e0,I64 x.e1,I64 x.e2]
def Hg.ks (x:Hg):List Value:=[.int .i64 x.e0,.int .i64 x.e1,.int .i64 x.e2]
def Hg.kv (x:Hg):Value:=.agg x.ks.toArray
structure Slot where
 G3:Int
 Tier:Int
 Half:Int
 deriving DecidableEq,Inhabited
def Slot.cs (x:Slot):List AV:=[I64 x.G3,I64 x.Tier,U8 x.Half]
def Slot.av (x:Slot):AV:=.agg x.cs
abbrev Ek (x:Slot):AV:=.dptr (Slot.cs x)
abbrev Ea:=LS 3 Slot.av
namespace XAF
theorem Z97 (a b:Hg):Jc5 En 4 172 [.int .i64 a.e0,.int .i64 a.e1,.int .i64 a.e2] [.int .i64 b.e0,.int .i64 b.e1,.int .i64 b.e2]=some (decide (a=b)):=by
 refine(show _=some ((a.e0==b.e0)&&((a.e1==b.e1)&&((a.e2==b.e2)&&true))) by kernel_rfl).trans (congrArg some ?_)
 rw [Bool.eq_iff_iff]
 simp only [Mk,beq_iff_eq,Mm,Bool.and_true]
 constructor
 ·intro h; obtain⟨_,_,_⟩:=a; obtain⟨_,_,_⟩:=b; simp_all
 ·intro h; subst h; simp
theorem J12:H3e En 100 2=true:=by kernel_rfl
theorem Y3d:H3e En 208 3=true:=by kernel_rfl
theorem Gbf:H3e En 97 12=true:=by kernel_rfl
theorem Qba:Za9 En 172 3 1=true:=by kernel_rfl
theorem Rbb:H1 En 109=true:=by kernel_rfl
theorem Q49:H1 En 113=true:=by kernel_rfl
theorem Q44:H1 En 142=true:=by kernel_rfl
theorem H0d:Jw En 100 0 0=true:=by kernel_rfl
theorem G64:Jw En 100 1 1=true:=by kernel_rfl
theorem J49:Jw En 208 0 0=true:=by kernel_rfl
theorem Q98:Jw En 208 1 1=true:=by kernel_rfl
theorem Q97:Jw En 208 2 2=true:=by kernel_rfl
theorem Jc:Jw En 36 0 0=true:=by kernel_rfl
theorem Yd:Jw En 36 1 1=true:=by kernel_rfl
theorem G2c:Jw En 97 0 0=true:=by kernel_rfl
theorem G92:Jw En 97 1 1=true:=by kernel_rfl
theorem J48:Jw En 97 10 10=true:=by kernel_rfl
theorem H8c:Jw En 97 11 11=true:=by kernel_rfl
theorem Yu:Jw En 97 2 2=true:=by kernel_rfl
theorem H47:Jw En 97 3 3=true:=by kernel_rfl
theorem Hda:Jw En 97 4 4=true:=by kernel_rfl
theorem R1b:Jw En 97 5 5=true:=by kernel_rfl
theorem R1a:Jw En 97 6 6=true:=by kernel_rfl
theorem R19:Jw En 97 7 7=true:=by kernel_rfl
theorem J9c:Jw En 97 8 8=true:=by kernel_rfl
theorem J9b:Jw En 97 9 9=true:=by kernel_rfl
theorem Gea:Zk En 171 172 3=true:=by kernel_rfl
theorem J1:En.follows .mixedOrders=true:=by kernel_rfl
theorem Yt:placesOf En 208=some [(0,1),(1,1),(2,1)]:=by kernel_rfl
theorem H0b:placesOf En 57=some [(0,1),(1,1),(2,1)]:=by kernel_rfl
theorem Jv:Rb En 26=true:=by kernel_rfl
theorem G02:Rb En 27=true:=by kernel_rfl
theorem Gb:Rb En 3=true:=by kernel_rfl
theorem Qe:Rb En 4=true:=by kernel_rfl
theorem Rv:Rb En 49=true:=by kernel_rfl
theorem Hy:Rb En 5=true:=by kernel_rfl
theorem Q41:Yg En 100 2=true:=by kernel_rfl
theorem R9e:Yg En 208 3=true:=by kernel_rfl
theorem H2f:Yg En 97 12=true:=by kernel_rfl
theorem Gbe:sliceB En 176 5 1=true:=by kernel_rfl
theorem H7b:sliceB En 206 208 3=true:=by kernel_rfl
theorem Hz:sliceB En 26 97 12=true:=by kernel_rfl
theorem Qr:sliceB En 27 100 2=true:=by kernel_rfl
theorem H3:sliceB En 49 3 1=true:=by kernel_rfl
theorem Q3e:(En.info? 172).bind (fun i=>i.zero.map Value.cells)=some (List.toArray [E0,E0,E0]):=by kernel_rfl
theorem G0b:(En.info? 208).bind (fun i=>i.zero.map Value.cells)=some (List.toArray [E0,E0,E0]):=by kernel_rfl
theorem Ge8:(En.info? 57).bind (fun i=>i.zero.map Value.cells)=some (List.toArray [E0,E0,.int .u8 0]):=by kernel_rfl
theorem H07:R1 En 100 2=true:=by kernel_rfl
theorem J08:R1 En 208 3=true:=by kernel_rfl
theorem Q8f:R1 En 5 1=true:=by kernel_rfl
theorem G42:R1 En 97 12=true:=by kernel_rfl
theorem H46:(En.info? 3).bind (·.zero)=some E0:=by kernel_rfl
theorem Q11:Gf4 En 172 Hg.kv:=Gf4.of_eq Hg.ks (by kernel_rfl) (fun a b h=>by simp only [Hg.ks,List.cons.injEq,Value.int.injEq,Value.bool.injEq,Value.string.injEq,true_and,and_true] at h; obtain⟨_,_,_⟩:=a; obtain⟨_,_,_⟩:=b; simp_all) 4 (by decide) (fun a b=>Z97 a b) (fun a=>by kernel_rfl) (fun a=>by simp [Instr.sameBits,Hg.ks])
end XAF
open XAF

def G6f (l:List Hn):Option Bool:=
 each (fun a d (c:Unit) b=>
  bif ((decide (a.n < a.low))||(decide (a.high < a.n))) then
  (some false)
  else
  (b ()))
 (fun(c:Unit)=>
  some true) l 0 ()
theorem Hfd (l:List Hn) (r:Bool) (h:G6f l=some r):Pure En 142 [LS 3 Hn.av l] (·=BL r):=by
 unfold G6f at h
 refine Gz [.tmp 2] Tryz.func142 O O (Jr fun x=>(JLm (BL false) O (G6 (x (Js fun z=>Jr fun a0=>(JLm (LS 3 Hn.av l) O (JLl H7b O O O fun a1=>(JLm (I64 0) O (G6 (a0 (Gq ?_)))))))))))
 obtain⟨a2,i,j,g,h⟩:=Je h
 refine Hm (fun b (c:Unit)=>each a2 i (List.drop b l) b c=some r) (fun b c=>[(5,LS 3 Hn.av l),(6,Em l.length),(7,Em b)]) (fun b c=>[]) (fun b=>l.length - b) 0 () h ⟨(.sm O O),ø,O⟩ ?_
 clear h
 intro b c d a5 a3
 refine Jr fun k=>(JLh (BL (decide ((b:Int) < (l.length:Int)))) (Jn O O O) O (G6 (k (Js fun m=>Gp O (fun hb=>?_) (fun hb=>?_)))))
 ·
  have e:=Jz hb
  obtain⟨a,a4,o,p,h⟩:=Hv d e
  replace h:=Zm j h
  refine Gk (m (Js fun q=>Gq (Jr fun s=>(JLh (.dptr [I64 a.n,I64 a.low,I64 a.high]) (Hb (f:=Hn.av) (xs:=l) (y:=a) O O O H7b o O) O (JLh (.agg [I64 a.n,I64 a.low,I64 a.high]) (Gm Y3d O O O) O (JLh (.ptr 1206 0) (Hj 1206 3 J08 O O) O (Hq (u:=.junk) (H7 (u:=.agg [I64 a.n,I64 a.low,I64 a.high]) (ds:=[I64 a.n,I64 a.low,I64 a.high]) R9e O O O O O O O O) (G6 (s (fzQ [(4,.dptr [I64 a.n,I64 a.low,I64 a.high]),(5,LS 3 Hn.av l),(6,Em l.length),(7,Em b)] [] 1206 rfl rfl rfl ø rfl ?_))))))))))
  refine Jr fun t=>(JLh (.dptr [I64 a.n,I64 a.low,I64 a.high]) (Ga J49 O O O) O (JLh (I64 a.n) (Gg Gb O O O) O (JLh (.dptr [I64 a.low,I64 a.high]) (Ga Q98 O O O) O (JLh (I64 a.low) (Gg Gb O O O) O (JLh (BL (decide (a.n < a.low))) (Jn O O O) O (JLm (BL (decide (a.n < a.low))) O (JLo (.dptr [I64 a.n,I64 a.low,I64 a.high]) [] O .scf ø (fun hc=>Ga J49 O O O) O (JLo (I64 a.n) [17] O .scf ⟨Ua,ø⟩ (fun hc=>Gg Gb O O O) O (JLo (.dptr [I64 a.high]) [] O .scf ø (fun hc=>Ga Q97 O O O) O (JLo (I64 a.high) [19] O .scf ⟨Ua,ø⟩ (fun hc=>Gg Gb O O O) O (JLo (BL (decide (a.high < a.n))) [18,20] O .scf ⟨Ua,Ua,ø⟩ (fun hc=>Gd1 O O O) O (JLh (BL ((decide (a.n < a.low))||(decide (a.high < a.n)))) (G82 O O O O) O (G6 (t ?_))))))))))))))
  refine JCc O h ?_ ?_<;>intro h hb
  ·
   refine Jr fun v=>(JLm (BL false) O (G6 (v (Gs (fin1 BL h)))))
  ·
   refine Gk (q (G2 (JLh (I64 ((b+1:Nat):Int)) (J3 (Hp e a1) O O O) O (JLm (I64 ((b+1:Nat):Int)) O (G6 (a3 _ _ (b+1) () (app1 p h) (by omega) ⟨(.sm O O),ø,rfl⟩))))))
 ·
  have h:=app1 g (Hw d (Hf hb))
  refine Hr (z (Jr fun w=>(JLm (BL true) O (G6 (w (Gs (fin1 BL h)))))))

def Gc8 (c:G3):Option Bool:=
 each (fun d a (f:Unit) e=>
  wrp (c.Tiers - 1) fun g=>
  bnd (G6f [(Hn.mk d 0 g)]) fun b=>
  bnd (bif ((!(!b))&&(decide (0 < (a:Int)))) then some (IntKind.i64.wrap ((a:Int) - 1)) else some 0) fun h=>
  bnd (bif ((!(!b))&&(decide (0 < (a:Int)))) then Qm c.Plugs h some else some default) fun i=>
  bif ((!b)||((decide (0 < (a:Int)))&&(decide (d≤i)))) then
  (some false)
  else
  (e ()))
 (fun(f:Unit)=>
  bnd (G6f [(Hn.mk c.Bay 0 39),(Hn.mk c.Row 0 30),(Hn.mk c.Tiers 1 10),(Hn.mk c.Height 0 40000),(Hn.mk c.Kilos20 0 500000000),(Hn.mk c.Kilos40 0 500000000),(Hn.mk c.Lash 0 1000000000000),(Hn.mk c.X (-500000) 500000),(Hn.mk c.Y (-500000) 500000),(Hn.mk c.Z (-500000) 500000)]) fun j=>
  some j) c.Plugs 0 ()
abbrev Eo (c:G3):List AV:=[I64 c.Tiers,I64 c.Height,I64 c.Kilos20,I64 c.Kilos40,I64 c.Lash,E2 c.Plugs,I64 c.X,I64 c.Y,I64 c.Z]
theorem R05 (c:G3) (r:Bool) (h:Gc8 c=some r):Pure En 109 [.agg (G3.cs c)] (·=BL r):=by
 unfold Gc8 at h
 refine Gz [.tmp 2] Tryz.func109 O O (Jr fun a7=>(JLh (.ptr 1184 0) (Q6 (cs:=(G3.cs c)) 1184 O O O O O) O (JLm (BL false) O (G6 (a7 (Gr [(1,Ej c)] [] 1184 rfl rfl rfl ø rfl (by exact⟨.ptr,ø⟩) (Jr fun a8=>(JLm (.fn 142 []) O (G6 (a8 (Js fun a9=>Jr fun b0=>(JLh (.dptr [E2 c.Plugs,I64 c.X,I64 c.Y,I64 c.Z]) (Ga J9c O O O) O (JLh (E2 c.Plugs) (Gg Rv O O O) O (JLl H3 O O O fun b1=>(JLm (I64 0) O (G6 (b0 (Gq ?_))))))))))))))))))
 obtain⟨b2,o,p,n,h⟩:=Je h
 refine Hm (fun a (j:Unit)=>each b2 o (List.drop a c.Plugs) a j=some r) (fun a j=>[(1,Ej c),(3,.fn 142 []),(7,E2 c.Plugs),(8,Em c.Plugs.length),(9,Em a)]) (fun a j=>[]) (fun a=>c.Plugs.length - a) 0 () h ⟨(.sm O O),ø,rfl⟩ ?_
 clear h
 intro a j k b6 b3
 refine Jr fun q=>(JLh (BL (decide ((a:Int) < (c.Plugs.length:Int)))) (Jn O O O) O (G6 (q (Js fun s=>Gp O (fun hb=>?_) (fun hb=>?_)))))
 ·
  have l:=Jz hb
  obtain⟨d,b5,t,v,h⟩:=Hv k l
  replace h:=Zm p h
  refine Gk (s (Js fun w=>Gq (Jr fun x=>(JLm (Em a) O (JLh (.dptr [I64 d]) (Hb (f:=I64) (xs:=c.Plugs) (y:=d) O O O H3 t O) O (JLh (I64 d) (Gg Gb O O O) O (JLm (Em a) O (JLm (I64 d) O (G6 (x (Jr fun z=>(JLm (.fn 142 []) O (JLm (I64 d) O (JLh (.dptr (Eo c)) (Ga H47 O O O) O (JLh (I64 c.Tiers) (Gg Gb O O O) O ?_)))))))))))))))
  obtain⟨e,a0,h⟩:=Z46 h
  refine JLh (I64 e) (G62 a0 O O O) O (JLh (.agg [I64 d,I64 0,I64 e]) (Hi (cs:=[I64 d,I64 0,I64 e]) [(0,1),(1,1),(2,1)] [I64 0,I64 0,I64 0] [E0,E0,E0] Yt G0b (zzQ O) O O) O (JLh (LS 3 Hn.av [(Hn.mk d 0 e)]) (He (xs:=[.agg [I64 d,I64 0,I64 e]]) O ⟨O,O,ø⟩ H7b J08 O O O O) O ?_))
  obtain⟨g,a1,h⟩:=Gd h
  refine JLh (BL g) (G29 (args:=[LS 3 Hn.av [(Hn.mk d 0 e)]]) (caps:=[]) O O (Hfd [(Hn.mk d 0 e)] g a1) Q44 ⟨O,O,ø⟩ O) O (JLh (BL (!g)) (Yc (b:=g) O O) O (JLm (BL (!g)) O (JLo (Em a) [] O .scf ø (fun hc=>G5 O O) O (JLo (BL (decide (0 < (a:Int)))) [24] O .scf ⟨Ua,ø⟩ (fun hc=>Gd1 O O O) O (JLo (BL (decide (0 < (a:Int)))) [25] O .scf ⟨Ua,ø⟩ (fun hc=>G5 O O) O (JLo (I64 d) [] O .optt ø (fun hc=>G5 O O) O (JLo (.dptr [E2 c.Plugs,I64 c.X,I64 c.Y,I64 c.Z]) [] O .optt ø (fun hc=>Ga J9c O O O) O (JLo (E2 c.Plugs) [28] O .optt ⟨Ua,ø⟩ (fun hc=>Gg Rv O O O) O (JLo (Em a) [] O .optt ø (fun hc=>G5 O O) O ?_)))))))))
  obtain⟨b4,a2,h⟩:=Gd h
  refine JLo (I64 b4) [30] O .optt ⟨Ua,ø⟩ (fun hc=>G62 (M8 (H2 hc a2)) O O O) O ?_
  obtain⟨i,a3,h⟩:=Gd h
  refine JLo (.dptr [I64 i]) [29,31] O .optt ⟨Ua,Ua,ø⟩ (fun hc=>(match Gc4 (H2 hc a3) with | ⟨_,hm_,hy_⟩=>Hb (f:=I64) (xs:=c.Plugs) (y:=i) O O O H3 hy_ hm_)) O (JLo (I64 i) [32] O .optt ⟨Ua,ø⟩ (fun hc=>Gg Gb O O O) O (JLo (BL (decide (d≤i))) [27,33] O .optt ⟨Ua,Ua,ø⟩ (fun hc=>Hd6 O O O) O (Gi (u:=BL ((decide (0 < (a:Int)))&&(decide (d≤i)))) [(26,BL (decide (0 < (a:Int)))),(34,_)] O O O .scf ⟨.all id,.part,ø⟩ (fun hc=>Ri O O O O) ?_)))
  refine JLh (BL ((!g)||((decide (0 < (a:Int)))&&(decide (d≤i))))) (G82 O O O O) O (G6 (z (JCc O h (fun h hb=>?_) (fun h hb=>?_))))
  ·
   refine Jr fun a4=>(JLm (BL false) O (G6 (a4 (Gs (fin1 BL h)))))
  ·
   refine Gk (w (G2 (JLh (I64 ((a+1:Nat):Int)) (J3 (Hp l b1) O O O) O (JLm (I64 ((a+1:Nat):Int)) O (G6 (b3 _ _ (a+1) () (app1 v h) (by omega) ⟨(.sm O O),ø,rfl⟩))))))
 ·
  have h:=app1 n (Hw k (Hf hb))
  refine Hr (a9 ?_)
  refine Jr fun a5=>(JLm (.fn 142 []) O (JLh (Ej c) (Ga G2c O O O) O (JLh (I64 c.Bay) (Gg Gb O O O) O (JLh (.agg [I64 c.Bay,I64 0,I64 39]) (Hi (cs:=[I64 c.Bay,I64 0,I64 39]) [(0,1),(1,1),(2,1)] [I64 0,I64 0,I64 0] [E0,E0,E0] Yt G0b (zzQ O) O O) O (JLh (.dptr [I64 c.Row,BL c.Deck,I64 c.Tiers,I64 c.Height,I64 c.Kilos20,I64 c.Kilos40,I64 c.Lash,E2 c.Plugs,I64 c.X,I64 c.Y,I64 c.Z]) (Ga G92 O O O) O (JLh (I64 c.Row) (Gg Gb O O O) O (JLh (.agg [I64 c.Row,I64 0,I64 30]) (Hi (cs:=[I64 c.Row,I64 0,I64 30]) [(0,1),(1,1),(2,1)] [I64 0,I64 0,I64 0] [E0,E0,E0] Yt G0b (zzQ O) O O) O (JLh (.dptr (Eo c)) (Ga H47 O O O) O (JLh (I64 c.Tiers) (Gg Gb O O O) O (JLh (.agg [I64 c.Tiers,I64 1,I64 10]) (Hi (cs:=[I64 c.Tiers,I64 1,I64 10]) [(0,1),(1,1),(2,1)] [I64 0,I64 0,I64 0] [E0,E0,E0] Yt G0b (zzQ O) O O) O (JLh (.dptr [I64 c.Height,I64 c.Kilos20,I64 c.Kilos40,I64 c.Lash,E2 c.Plugs,I64 c.X,I64 c.Y,I64 c.Z]) (Ga Hda O O O) O (JLh (I64 c.Height) (Gg Gb O O O) O (JLh (.agg [I64 c.Height,I64 0,I64 40000]) (Hi (cs:=[I64 c.Height,I64 0,I64 40000]) [(0,1),(1,1),(2,1)] [I64 0,I64 0,I64 0] [E0,E0,E0] Yt G0b (zzQ O) O O) O ?_)))))))))))))
  refine JLh (.dptr [I64 c.Kilos20,I64 c.Kilos40,I64 c.Lash,E2 c.Plugs,I64 c.X,I64 c.Y,I64 c.Z]) (Ga R1b O O O) O (JLh (I64 c.Kilos20) (Gg Gb O O O) O (JLh (.agg [I64 c.Kilos20,I64 0,I64 500000000]) (Hi (cs:=[I64 c.Kilos20,I64 0,I64 500000000]) [(0,1),(1,1),(2,1)] [I64 0,I64 0,I64 0] [E0,E0,E0] Yt G0b (zzQ O) O O) O (JLh (.dptr [I64 c.Kilos40,I64 c.Lash,E2 c.Plugs,I64 c.X,I64 c.Y,I64 c.Z]) (Ga R1a O O O) O (JLh (I64 c.Kilos40) (Gg Gb O O O) O (JLh (.agg [I64 c.Kilos40,I64 0,I64 500000000]) (Hi (cs:=[I64 c.Kilos40,I64 0,I64 500000000]) [(0,1),(1,1),(2,1)] [I64 0,I64 0,I64 0] [E0,E0,E0] Yt G0b (zzQ O) O O) O (JLh (.dptr [I64 c.Lash,E2 c.Plugs,I64 c.X,I64 c.Y,I64 c.Z]) (Ga R19 O O O) O (JLh (I64 c.Lash) (Gg Gb O O O) O (JLh (.agg [I64 c.Lash,I64 0,I64 1000000000000]) (Hi (cs:=[I64 c.Lash,I64 0,I64 1000000000000]) [(0,1),(1,1),(2,1)] [I64 0,I64 0,I64 0] [E0,E0,E0] Yt G0b (zzQ O) O O) O (JLh (.dptr [I64 c.X,I64 c.Y,I64 c.Z]) (Ga J9b O O O) O (JLh (I64 c.X) (Gg Gb O O O) O (JLh (.agg [I64 c.X,I64 (-500000),I64 500000]) (Hi (cs:=[I64 c.X,I64 (-500000),I64 500000]) [(0,1),(1,1),(2,1)] [I64 0,I64 0,I64 0] [E0,E0,E0] Yt G0b (zzQ O) O O) O (JLh (.dptr [I64 c.Y,I64 c.Z]) (Ga J48 O O O) O (JLh (I64 c.Y) (Gg Gb O O O) O ?_)))))))))))))
  refine JLh (.agg [I64 c.Y,I64 (-500000),I64 500000]) (Hi (cs:=[I64 c.Y,I64 (-500000),I64 500000]) [(0,1),(1,1),(2,1)] [I64 0,I64 0,I64 0] [E0,E0,E0] Yt G0b (zzQ O) O O) O (JLh (.dptr [I64 c.Z]) (Ga H8c O O O) O (JLh (I64 c.Z) (Gg Gb O O O) O (JLh (.agg [I64 c.Z,I64 (-500000),I64 500000]) (Hi (cs:=[I64 c.Z,I64 (-500000),I64 500000]) [(0,1),(1,1),(2,1)] [I64 0,I64 0,I64 0] [E0,E0,E0] Yt G0b (zzQ O) O O) O (JLh (LS 3 Hn.av [(Hn.mk c.Bay 0 39),(Hn.mk c.Row 0 30),(Hn.mk c.Tiers 1 10),(Hn.mk c.Height 0 40000),(Hn.mk c.Kilos20 0 500000000),(Hn.mk c.Kilos40 0 500000000),(Hn.mk c.Lash 0 1000000000000),(Hn.mk c.X (-500000) 500000),(Hn.mk c.Y (-500000) 500000),(Hn.mk c.Z (-500000) 500000)]) (He (xs:=[.agg [I64 c.Bay,I64 0,I64 39],.agg [I64 c.Row,I64 0,I64 30],.agg [I64 c.Tiers,I64 1,I64 10],.agg [I64 c.Height,I64 0,I64 40000],.agg [I64 c.Kilos20,I64 0,I64 500000000],.agg [I64 c.Kilos40,I64 0,I64 500000000],.agg [I64 c.Lash,I64 0,I64 1000000000000],.agg [I64 c.X,I64 (-500000),I64 500000],.agg [I64 c.Y,I64 (-500000),I64 500000],.agg [I64 c.Z,I64 (-500000),I64 500000]]) O ⟨O,O,O,O,O,O,O,O,O,O,O,O,O,O,O,O,O,O,O,O,ø⟩ H7b J08 O O O O) O ?_))))
  obtain⟨m,a6,h⟩:=Gd h
  refine JLh (BL m) (G29 (args:=[LS 3 Hn.av [(Hn.mk c.Bay 0 39),(Hn.mk c.Row 0 30),(Hn.mk c.Tiers 1 10),(Hn.mk c.Height 0 40000),(Hn.mk c.Kilos20 0 500000000),(Hn.mk c.Kilos40 0 500000000),(Hn.mk c.Lash 0 1000000000000),(Hn.mk c.X (-500000) 500000),(Hn.mk c.Y (-500000) 500000),(Hn.mk c.Z (-500000) 500000)]]) (caps:=[]) O O (Hfd [(Hn.mk c.Bay 0 39),(Hn.mk c.Row 0 30),(Hn.mk c.Tiers 1 10),(Hn.mk c.Height 0 40000),(Hn.mk c.Kilos20 0 500000000),(Hn.mk c.Kilos40 0 500000000),(Hn.mk c.Lash 0 1000000000000),(Hn.mk c.X (-500000) 500000),(Hn.mk c.Y (-500000) 500000),(Hn.mk c.Z (-500000) 500000)] m a6) Q44 ⟨O,O,ø⟩ O) O (JLm (BL m) O (G6 (a5 (Gs (fin1 BL h)))))

def H1d (s:Gj) (Rp:Bool→Prop):Option Prop:=
 bif (((decide ((s.Columns.length:Int) < 1))||(decide (200 < (s.Columns.length:Int))))||(decide (40 < (s.Covers.length:Int)))) then
 (some (Rp false))
 else
 (each (fun c y (f:(Ha Hg Int)) m=>
   jp (fun g=>
    bif c.Deck then
    (g 1)
    else
    (g 0)) fun(k:Int)=>
   bnd (some (Ha.get f (Hg.mk c.Bay c.Row k) 0)) fun v=>
   chk (v+1) fun w=>
   bnd (Gc8 c) fun x=>
   bif (!x) then
   (some (Rp false))
   else
   (m (Ha.put f (Hg.mk c.Bay c.Row k) w)))
  (fun(f:(Ha Hg Int))=>
   each (fun b z (h:(Ha Hg Int)) n=>
    bif (((decide (b.Bay < 0))||(decide (40≤b.Bay)))||(decide ((b.Rows.length:Int)=0))) then
    (some (Rp false))
    else
    (each (fun a d (e:(Ha Hg Int)) i=>
      bnd (bif ((!((decide (a < 0))||(decide (30 < a))))&&(decide (0 < (d:Int)))) then chk ((d:Int) - 1) some else some 0) fun o=>
      bnd (bif ((!((decide (a < 0))||(decide (30 < a))))&&(decide (0 < (d:Int)))) then Qm b.Rows o some else some default) fun p=>
      bif (((decide (a < 0))||(decide (30 < a)))||((decide (0 < (d:Int)))&&(decide (a≤p)))) then
      (some (Rp false))
      else
      (bnd (some (Ha.get e (Hg.mk b.Bay a 2) 0)) fun q=>
       chk (q+1) fun r=>
       i (Ha.put e (Hg.mk b.Bay a 2) r)))
     (fun(e:(Ha Hg Int))=>
      n e) b.Rows 0 h))
   (fun(h:(Ha Hg Int))=>
    J32 (fun(t:Hg×Int) (u:Unit) j=>
     bif decide (1 < t.2) then
     (lft (some (Rp false)))
     else
     (j ()))
    (fun(u:Unit)=>
     some (Rp true)) (Ha.l h) ()) s.Covers 0 f) s.Columns 0 (Ha.empty:Ha Hg Int))
def H83 (s:Gj):Option Bool:=
 bif (((decide ((s.Columns.length:Int) < 1))||(decide (200 < (s.Columns.length:Int))))||(decide (40 < (s.Covers.length:Int)))) then
 (some (id false))
 else
 (each (fun c y (f:(Ha Hg Int)) m=>
   jp (fun g=>
    bif c.Deck then
    (g 1)
    else
    (g 0)) fun(k:Int)=>
   bnd (some (Ha.get f (Hg.mk c.Bay c.Row k) 0)) fun v=>
   chk (v+1) fun w=>
   bnd (Gc8 c) fun x=>
   bif (!x) then
   (some (id false))
   else
   (m (Ha.put f (Hg.mk c.Bay c.Row k) w)))
  (fun(f:(Ha Hg Int))=>
   each (fun b z (h:(Ha Hg Int)) n=>
    bif (((decide (b.Bay < 0))||(decide (40≤b.Bay)))||(decide ((b.Rows.length:Int)=0))) then
    (some (id false))
    else
    (each (fun a d (e:(Ha Hg Int)) i=>
      bnd (bif ((!((decide (a < 0))||(decide (30 < a))))&&(decide (0 < (d:Int)))) then chk ((d:Int) - 1) some else some 0) fun o=>
      bnd (bif ((!((decide (a < 0))||(decide (30 < a))))&&(decide (0 < (d:Int)))) then Qm b.Rows o some else some default) fun p=>
      bif (((decide (a < 0))||(decide (30 < a)))||((decide (0 < (d:Int)))&&(decide (a≤p)))) then
      (some (id false))
      else
      (bnd (some (Ha.get e (Hg.mk b.Bay a 2) 0)) fun q=>
       chk (q+1) fun r=>
       i (Ha.put e (Hg.mk b.Bay a 2) r)))
     (fun(e:(Ha Hg Int))=>
      n e) b.Rows 0 h))
   (fun(h:(Ha Hg Int))=>
    H11 (fun(t:Hg×Int) (u:Unit) j=>
     bif decide (1 < t.2) then
     (lft (some (id false)))
     else
     (j ()))
    (fun(u:Unit)=>
     some (id true)) (Ha.l h) ()) s.Covers 0 f) s.Columns 0 (Ha.empty:Ha Hg Int))
abbrev Ep (s:Gj):List AV:=[E7 s.Covers,I64 s.Light.Kilos,I64 s.Light.X,I64 s.Light.Y,I64 s.Light.Z,E4 s.Rows,E5 s.Frames,E6 s.Tanks,I64 s.G8.Tolerance,I64 s.G8.Trim,I64 s.G8.List_,I64 s.G8.Stability]
theorem R06 (s:Gj) (Rp:Bool→Prop) (p:Prop) (h:H1d s Rp=some p) (hp:p):Pure En 60 [.agg (Gj.cs s)] (fun av=>∃ r,Rp r∧av=BL r):=by
 unfold H1d at h
 refine Gz [.tmp 2] Tryz.func60 O O (Jr fun i8=>(JLh (.ptr 1120 0) (Q6 (cs:=(Gj.cs s)) 1120 O O O O O) O (JLm (BL false) O (G6 (i8 (Gr [(1,Ee s)] [] 1120 rfl rfl rfl ø rfl (by exact⟨.ptr,ø⟩) (Js fun i9=>?_)))))))
 refine Jr fun j0=>(JLh (Ee s) (Ga Jc O O O) O (JLh (E3 s.Columns) (Gg Jv O O O) O (JLl Hz O O O fun k2=>(JLh (BL (decide ((s.Columns.length:Int) < 1))) (Jn O O O) O (JLm (BL (decide ((s.Columns.length:Int) < 1))) O (JLo (Ee s) [] O .scf ø (fun hc=>Ga Jc O O O) O (JLo (E3 s.Columns) [18] O .scf ⟨Ua,ø⟩ (fun hc=>Gg Jv O O O) O (JLo (Em s.Columns.length) [19] O .scf ⟨Ua,ø⟩ (fun hc=>Gf6 (f:=G3.av) (xs:=s.Columns) Hz O O) O (JLo (BL (decide (200 < (s.Columns.length:Int)))) [20] O .scf ⟨Ua,ø⟩ (fun hc=>Gd1 O O O) O (JLh (BL ((decide ((s.Columns.length:Int) < 1))||(decide (200 < (s.Columns.length:Int))))) (G82 O O O O) O (JLm (BL ((decide ((s.Columns.length:Int) < 1))||(decide (200 < (s.Columns.length:Int))))) O (JLo (.dptr (Ep s)) [] O .scf ø (fun hc=>Ga Yd O O O) O (JLo (E7 s.Covers) [24] O .scf ⟨Ua,ø⟩ (fun hc=>Gg G02 O O O) O ?_)))))))))))))
 refine JLo (Em s.Covers.length) [25] O .scf ⟨Ua,ø⟩ (fun hc=>Gf6 (f:=G9.av) (xs:=s.Covers) Qr O O) O (JLo (BL (decide (40 < (s.Covers.length:Int)))) [26] O .scf ⟨Ua,ø⟩ (fun hc=>Gd1 O O O) O (JLh (BL (((decide ((s.Columns.length:Int) < 1))||(decide (200 < (s.Columns.length:Int))))||(decide (40 < (s.Covers.length:Int))))) (G82 O O O O) O (G6 (j0 (JCc O h (fun h hb=>?_) (fun h hb=>?_))))))
 ·
  refine Jr fun j1=>(JLm (BL false) O (G6 (j1 (Gs (⟨[BL false],[],ø,O,⟨⟨_,O,.conv (.same O)⟩,ø⟩,O,false,Eq.mpr (M8 h) hp,O⟩)))))
 ·
  refine Gk (i9 (Jr fun j2=>(JLh (.mp 1123) (Hb5 1123 Hg.kv I64 O O) O (JLm (.mp 1123) O (G6 (j2 (Js fun j3=>Jr fun j4=>(JLh (Ee s) (Ga Jc O O O) O (JLh (E3 s.Columns) (Gg Jv O O O) O (JLl Hz O O O fun f0=>(JLm (I64 0) O (G6 (j4 (Gq ?_))))))))))))))
  obtain⟨j5,f1,f2,c4,h⟩:=Je h
  refine Hm (fun o (k:(Ha Hg Int))=>each j5 f1 (List.drop o s.Columns) o k=some p) (fun o k=>[(1,Ee s),(3,.mp 1123),(31,E3 s.Columns),(32,Em s.Columns.length),(33,Em o)]) (fun o k=>[(1123,MP 171 Hg.kv I64 k)]) (fun o=>s.Columns.length - o) 0 (Ha.empty:Ha Hg Int) h ⟨(.sm O O),⟨fmQ O,ø⟩,rfl⟩ ?_
  clear h
  intro o k b5 k8 j6
  refine Jr fun f3=>(JLh (BL (decide ((o:Int) < (s.Columns.length:Int)))) (Jn O O O) O (G6 (f3 (Js fun f4=>Gp O (fun hb=>?_) (fun hb=>?_)))))
  ·
   have b6:=Jz hb
   obtain⟨g,k3,f5,f6,h⟩:=Hv b5 b6
   replace h:=Zm f2 h
   refine Gk (f4 (Js fun f7=>Gq (Jr fun f8=>(JLh (Ej g) (Hb (f:=G3.av) (xs:=s.Columns) (y:=g) O O O Hz f5 O) O (JLh (.agg (G3.cs g)) (Gm Gbf O O O) O (JLh (.ptr 1121 0) (Hj 1121 12 G42 O O) O (Hq (u:=.junk) (H7 (u:=.agg (G3.cs g)) (ds:=(G3.cs g)) H2f O O O O O O O O) (G6 (f8 ?_)))))))))
   refine fzQ [(1,Ee s),(3,.mp 1123),(5,Ej g),(31,E3 s.Columns),(32,Em s.Columns.length),(33,Em o)] [(1123,MP 171 Hg.kv I64 k)] 1121 rfl rfl rfl ⟨fmQ O,ø⟩ rfl (Jr fun f9=>(JLm (I64 0) O (G6 (f9 ?_))))
   obtain⟨g0,c5,h⟩:=Rc h
   refine Qk (fun n:Int=>g0 n=some p) (fun n=>[(1,Ee s),(3,.mp 1123),(5,Ej g),(6,I64 n),(31,E3 s.Columns),(32,Em s.Columns.length),(33,Em o)]) (fun n=>[(1123,MP 171 Hg.kv I64 k)]) (fun Kj74 ej74=>?_) ?_
   ·
    refine Jr fun g1=>(JLh (.dptr ((G3.cs g).drop 2)) (Ga Yu O O O) O (JLh (BL g.Deck) (Gg Qe O O O) O (G6 (g1 (JCc O h (fun h hb=>?_) (fun h hb=>?_))))))
    ·
     refine G2 (JLm (I64 1) O (G6 (ej74 _ _ 1 h ⟨(.sm O O),⟨fmQ O,ø⟩,rfl⟩)))
    ·
     refine Gk (ej74 _ _ 0 h ⟨(.sm O O),⟨fmQ O,ø⟩,rfl⟩)
   ·intro n h
    replace h:=app1 c5 h
    refine Js fun g2=>Qn (l':=[(1,Ee s),(3,.mp 1123),(5,Ej g),(6,I64 n),(31,E3 s.Columns),(32,Em s.Columns.length),(33,Em o)]) (L':=[(1123,MP 171 Hg.kv I64 k)]) ⟨(.sm O O),⟨fmQ O,ø⟩,rfl⟩ ?_
    obtain⟨j7,b7,h⟩:=Gd h
    obtain⟨a4,b8,h⟩:=Ht h
    refine Jm [9,11] [0,0,0,0,0,0,0,0,0,0,1,0] [0,0,0,0,0,0,0,1,1,0,1,0] [[(1123,MP 171 Hg.kv I64 k)],((1123,MI 171 Hg.kv I64 k (Hg.mk g.Bay g.Row n) 0)::[(1123,MP 171 Hg.kv I64 k)]),((1123,MP 171 Hg.kv I64 (Ha.put k (Hg.mk g.Bay g.Row n) a4))::((1123,MI 171 Hg.kv I64 k (Hg.mk g.Bay g.Row n) 0)::[(1123,MP 171 Hg.kv I64 k)]))] J1 (by kernel_rfl) rfl rfl ?_
    refine Gc (u:=.mp 1123) O O ⟨Gf (G5 O O) O,ø⟩ (Gc (u:=Ej g) O O ⟨Gf (Ga G2c O O O) O,ø⟩ (Gc (u:=I64 g.Bay) O O ⟨Gf (Gg Gb O O O) O,ø⟩ (Gc (u:=.dptr ((G3.cs g).drop 1)) O O ⟨Gf (Ga G92 O O O) O,ø⟩ (Gc (u:=I64 g.Row) O O ⟨Gf (Gg Gb O O O) O,ø⟩ (Gc (u:=I64 n) O O ⟨Gf (G5 O O) O,ø⟩ (Gc (u:=.agg [I64 g.Bay,I64 g.Row,I64 n]) O O ⟨Gf (R14 (cs:=[I64 g.Bay,I64 g.Row,I64 n]) [E0,E0,E0] Qba Q3e O O) O,ø⟩ (Gc (u:=I64 j7) O O ⟨Gf (((M8 b7) ▸ Jd3 (av:=I64) (m:=k) (a:=(Hg.mk g.Bay g.Row n)) 0 E0 O O O O Q11 Gea H46 O)) O,Gf (((M8 b7) ▸ R11 (av:=I64) (m:=k) (a:=(Hg.mk g.Bay g.Row n)) 0 E0 O O O O Q11 Gea H46 O)) O,ø⟩ (Gc (u:=I64 a4) O O ⟨Gf (J3 b8 O O O) O,Gf (J3 b8 O O O) O,ø⟩ (D_w (u:=.tup [.junk,I64 (G47 (Ha.l k) (Hg.mk g.Bay g.Row n):Int)]) O O O O (Gf (Q73 (m:=k) (a:=(Hg.mk g.Bay g.Row n)) 0 E0 O O O O Q11 Gea H46 O) O) (Gc (u:=I64 (G47 (Ha.l k) (Hg.mk g.Bay g.Row n):Int)) O O ⟨Gf (Gv O O O) O,ø⟩ (H22 (u:=.junk) O O O O (Gf (Jac (m:=k) (a:=(Hg.mk g.Bay g.Row n)) (v:=a4) 0 O O O O O O) O) (R4 ?_))))))))))))
    refine g2 (Jr fun g3=>(JLh (.agg (G3.cs g)) (Gm Gbf O O O) O ?_))
    obtain⟨a5,g4,h⟩:=Gd h
    refine JLh (BL a5) (Gu O (R05 g a5 g4) Rbb ⟨O,O,ø⟩) O (JLh (BL (!a5)) (Yc (b:=a5) O O) O (G6 (g3 (JCc O h (fun h hb=>?_) (fun h hb=>?_)))))
    ·
     refine Jr fun g5=>(JLm (BL false) O (G6 (g5 (Gs (⟨[BL false],[],ø,O,⟨⟨_,O,.conv (.same O)⟩,ø⟩,O,false,Eq.mpr (M8 h) hp,O⟩)))))
    ·
     refine Gk (f7 (G2 (JLh (I64 ((o+1:Nat):Int)) (J3 (Hp b6 f0) O O O) O (JLm (I64 ((o+1:Nat):Int)) O (G6 (j6 _ _ (o+1) (Ha.put k (Hg.mk g.Bay g.Row n) a4) (app1 f6 h) (by omega) ⟨(.sm O O),⟨fmQ O,ø⟩,rfl⟩))))))
  ·
   have h:=app1 c4 (Hw b5 (Hf hb))
   refine Hr (j3 (Js fun g6=>Jr fun g7=>(JLh (.dptr (Ep s)) (Ga Yd O O O) O (JLh (E7 s.Covers) (Gg G02 O O O) O (JLl Qr O O O fun g8=>(JLm (I64 0) O (G6 (g7 (Gq ?_)))))))))
   obtain⟨j8,g9,h0,c6,h⟩:=Je h
   refine Hm (fun t (w:(Ha Hg Int))=>each j8 g9 (List.drop t s.Covers) t w=some p) (fun t w=>[(3,.mp 1123),(55,E7 s.Covers),(56,Em s.Covers.length),(57,Em t)]) (fun t w=>[(1123,MP 171 Hg.kv I64 w)]) (fun t=>s.Covers.length - t) 0 k h ⟨(.sm O O),⟨fmQ O,ø⟩,rfl⟩ ?_
   clear h
   intro t w b9 k9 j9
   refine Jr fun h1=>(JLh (BL (decide ((t:Int) < (s.Covers.length:Int)))) (Jn O O O) O (G6 (h1 (Js fun h2=>Gp O (fun hb=>?_) (fun hb=>?_)))))
   ·
    have c0:=Jz hb
    obtain⟨c,k4,h3,h4,h⟩:=Hv b9 c0
    replace h:=Zm h0 h
    refine Gk (h2 (Js fun h5=>Gq (Jr fun h6=>(JLh (.dptr [I64 c.Bay,E2 c.Rows]) (Hb (f:=G9.av) (xs:=s.Covers) (y:=c) O O O Qr h3 O) O (JLh (.agg [I64 c.Bay,E2 c.Rows]) (Gm J12 O O O) O (JLh (.ptr 1122 0) (Hj 1122 2 H07 O O) O (Hq (u:=.junk) (H7 (u:=.agg [I64 c.Bay,E2 c.Rows]) (ds:=[I64 c.Bay,E2 c.Rows]) Q41 O O O O O O O O) (G6 (h6 (fzQ [(3,.mp 1123),(8,.dptr [I64 c.Bay,E2 c.Rows]),(55,E7 s.Covers),(56,Em s.Covers.length),(57,Em t)] [(1123,MP 171 Hg.kv I64 w)] 1122 rfl rfl rfl ⟨fmQ O,ø⟩ rfl (Js fun h7=>?_)))))))))))
    refine Jr fun h8=>(JLh (.dptr [I64 c.Bay,E2 c.Rows]) (Ga H0d O O O) O (JLh (I64 c.Bay) (Gg Gb O O O) O (JLh (BL (decide (c.Bay < 0))) (Jn O O O) O (JLm (BL (decide (c.Bay < 0))) O (JLo (.dptr [I64 c.Bay,E2 c.Rows]) [] O .scf ø (fun hc=>Ga H0d O O O) O (JLo (I64 c.Bay) [65] O .scf ⟨Ua,ø⟩ (fun hc=>Gg Gb O O O) O (JLo (BL (decide (40≤c.Bay))) [66] O .scf ⟨Ua,ø⟩ (fun hc=>H2c O O O) O (JLh (BL ((decide (c.Bay < 0))||(decide (40≤c.Bay)))) (G82 O O O O) O (JLm (BL ((decide (c.Bay < 0))||(decide (40≤c.Bay)))) O (JLo (.dptr [E2 c.Rows]) [] O .scf ø (fun hc=>Ga G64 O O O) O (JLo (E2 c.Rows) [70] O .scf ⟨Ua,ø⟩ (fun hc=>Gg Rv O O O) O (JLo (Em c.Rows.length) [71] O .scf ⟨Ua,ø⟩ (fun hc=>Gf6 (f:=I64) (xs:=c.Rows) H3 O O) O (JLo (BL (decide ((c.Rows.length:Int)=0))) [72] O .scf ⟨Ua,ø⟩ (fun hc=>Qg O O O) O ?_)))))))))))))
    refine JLh (BL (((decide (c.Bay < 0))||(decide (40≤c.Bay)))||(decide ((c.Rows.length:Int)=0)))) (G82 O O O O) O (G6 (h8 (JCc O h (fun h hb=>?_) (fun h hb=>?_))))
    ·
     refine Jr fun h9=>(JLm (BL false) O (G6 (h9 (Gs (⟨[BL false],[],ø,O,⟨⟨_,O,.conv (.same O)⟩,ø⟩,O,false,Eq.mpr (M8 h) hp,O⟩)))))
    ·
     refine Gk (h7 (Jr fun i0=>(JLh (.dptr [E2 c.Rows]) (Ga G64 O O O) O (JLh (E2 c.Rows) (Gg Rv O O O) O (JLl H3 O O O fun i1=>(JLm (I64 0) O (G6 (i0 (Gq ?_)))))))))
     obtain⟨i2,c7,c8,c1,h⟩:=Je h
     refine Hm (fun i (j:(Ha Hg Int))=>each i2 c7 (List.drop i c.Rows) i j=some p) (fun i j=>[(3,.mp 1123),(8,.dptr [I64 c.Bay,E2 c.Rows]),(55,E7 s.Covers),(56,Em s.Covers.length),(57,Em t),(76,E2 c.Rows),(77,Em c.Rows.length),(78,Em i)]) (fun i j=>[(1123,MP 171 Hg.kv I64 j)]) (fun i=>c.Rows.length - i) 0 w h ⟨(.sm O O),⟨fmQ O,ø⟩,rfl⟩ ?_
     clear h
     intro i j a6 k5 i3
     refine Jr fun c9=>(JLh (BL (decide ((i:Int) < (c.Rows.length:Int)))) (Jn O O O) O (G6 (c9 (Js fun d0=>Gp O (fun hb=>?_) (fun hb=>?_)))))
     ·
      have a7:=Jz hb
      obtain⟨d,k0,d1,d2,h⟩:=Hv a6 a7
      replace h:=Zm c8 h
      refine Gk (d0 (Js fun d3=>Gq (Jr fun d4=>(JLm (Em i) O (JLh (.dptr [I64 d]) (Hb (f:=I64) (xs:=c.Rows) (y:=d) O O O H3 d1 O) O (JLh (I64 d) (Gg Gb O O O) O (JLm (Em i) O (JLm (I64 d) O (G6 (d4 (Js fun d5=>?_)))))))))))
      refine Jr fun d6=>(JLm (I64 d) O (JLh (BL (decide (d < 0))) (Jn O O O) O (JLm (BL (decide (d < 0))) O (JLo (I64 d) [] O .scf ø (fun hc=>G5 O O) O (JLo (BL (decide (30 < d))) [86] O .scf ⟨Ua,ø⟩ (fun hc=>Gd1 O O O) O (JLh (BL ((decide (d < 0))||(decide (30 < d)))) (G82 O O O O) O (JLm (BL ((decide (d < 0))||(decide (30 < d)))) O (JLo (Em i) [] O .scf ø (fun hc=>G5 O O) O (JLo (BL (decide (0 < (i:Int)))) [90] O .scf ⟨Ua,ø⟩ (fun hc=>Gd1 O O O) O (JLo (BL (decide (0 < (i:Int)))) [91] O .scf ⟨Ua,ø⟩ (fun hc=>G5 O O) O (JLo (I64 d) [] O .optt ø (fun hc=>G5 O O) O (JLo (.dptr [E2 c.Rows]) [] O .optt ø (fun hc=>Ga G64 O O O) O (JLo (E2 c.Rows) [94] O .optt ⟨Ua,ø⟩ (fun hc=>Gg Rv O O O) O ?_)))))))))))))
      refine JLo (Em i) [] O .optt ø (fun hc=>G5 O O) O ?_
      obtain⟨i4,d7,h⟩:=Gd h
      refine JLo (I64 i4) [96] O .optt ⟨Ua,ø⟩ (fun hc=>G62 (Hf5 (H2 hc d7)) O O O) O ?_
      obtain⟨a0,d8,h⟩:=Gd h
      refine JLo (.dptr [I64 a0]) [95,97] O .optt ⟨Ua,Ua,ø⟩ (fun hc=>(match Gc4 (H2 hc d8) with | ⟨_,hm_,hy_⟩=>Hb (f:=I64) (xs:=c.Rows) (y:=a0) O O O H3 hy_ hm_)) O (JLo (I64 a0) [98] O .optt ⟨Ua,ø⟩ (fun hc=>Gg Gb O O O) O (JLo (BL (decide (d≤a0))) [93,99] O .optt ⟨Ua,Ua,ø⟩ (fun hc=>Hd6 O O O) O (Gi (u:=BL ((decide (0 < (i:Int)))&&(decide (d≤a0)))) [(92,BL (decide (0 < (i:Int)))),(100,_)] O O O .scf ⟨.all id,.part,ø⟩ (fun hc=>Ri O O O O) ?_)))
      refine JLh (BL (((decide (d < 0))||(decide (30 < d)))||((decide (0 < (i:Int)))&&(decide (d≤a0))))) (G82 O O O O) O (G6 (d6 (JCc O h (fun h hb=>?_) (fun h hb=>?_))))
      ·
       refine Jr fun d9=>(JLm (BL false) O (G6 (d9 (Gs (⟨[BL false],[],ø,O,⟨⟨_,O,.conv (.same O)⟩,ø⟩,O,false,Eq.mpr (M8 h) hp,O⟩)))))
      ·
       refine Gk (d5 (Qn (l':=[(3,.mp 1123),(8,.dptr [I64 c.Bay,E2 c.Rows]),(10,I64 d),(55,E7 s.Covers),(56,Em s.Covers.length),(57,Em t),(76,E2 c.Rows),(77,Em c.Rows.length),(78,Em i)]) (L':=[(1123,MP 171 Hg.kv I64 j)]) ⟨(.sm O O),⟨fmQ O,ø⟩,rfl⟩ ?_))
       obtain⟨i5,a8,h⟩:=Gd h
       obtain⟨a1,a9,h⟩:=Ht h
       refine Jm [7,9] [0,0,0,0,0,0,0,0,1,0] [0,0,0,0,0,1,1,0,1,0] [[(1123,MP 171 Hg.kv I64 j)],((1123,MI 171 Hg.kv I64 j (Hg.mk c.Bay d 2) 0)::[(1123,MP 171 Hg.kv I64 j)]),((1123,MP 171 Hg.kv I64 (Ha.put j (Hg.mk c.Bay d 2) a1))::((1123,MI 171 Hg.kv I64 j (Hg.mk c.Bay d 2) 0)::[(1123,MP 171 Hg.kv I64 j)]))] J1 (by kernel_rfl) rfl rfl ?_
       refine Gc (u:=.mp 1123) O O ⟨Gf (G5 O O) O,ø⟩ (Gc (u:=.dptr [I64 c.Bay,E2 c.Rows]) O O ⟨Gf (Ga H0d O O O) O,ø⟩ (Gc (u:=I64 c.Bay) O O ⟨Gf (Gg Gb O O O) O,ø⟩ (Gc (u:=I64 d) O O ⟨Gf (G5 O O) O,ø⟩ (Gc (u:=.agg [I64 c.Bay,I64 d,I64 2]) O O ⟨Gf (R14 (cs:=[I64 c.Bay,I64 d,I64 2]) [E0,E0,E0] Qba Q3e O O) O,ø⟩ (Gc (u:=I64 i5) O O ⟨Gf (((M8 a8) ▸ Jd3 (av:=I64) (m:=j) (a:=(Hg.mk c.Bay d 2)) 0 E0 O O O O Q11 Gea H46 O)) O,Gf (((M8 a8) ▸ R11 (av:=I64) (m:=j) (a:=(Hg.mk c.Bay d 2)) 0 E0 O O O O Q11 Gea H46 O)) O,ø⟩ (Gc (u:=I64 a1) O O ⟨Gf (J3 a9 O O O) O,Gf (J3 a9 O O O) O,ø⟩ (D_w (u:=.tup [.junk,I64 (G47 (Ha.l j) (Hg.mk c.Bay d 2):Int)]) O O O O (Gf (Q73 (m:=j) (a:=(Hg.mk c.Bay d 2)) 0 E0 O O O O Q11 Gea H46 O) O) (Gc (u:=I64 (G47 (Ha.l j) (Hg.mk c.Bay d 2):Int)) O O ⟨Gf (Gv O O O) O,ø⟩ (H22 (u:=.junk) O O O O (Gf (Jac (m:=j) (a:=(Hg.mk c.Bay d 2)) (v:=a1) 0 O O O O O O) O) (R4 ?_))))))))))
       refine d3 (G2 (JLh (I64 ((i+1:Nat):Int)) (J3 (Hp a7 i1) O O O) O (JLm (I64 ((i+1:Nat):Int)) O (G6 (i3 _ _ (i+1) (Ha.put j (Hg.mk c.Bay d 2) a1) (app1 d2 h) (by omega) ⟨(.sm O O),⟨fmQ O,ø⟩,rfl⟩)))))
     ·
      have h:=app1 c1 (Hw a6 (Hf hb))
      refine Hr (h5 (G2 (JLh (I64 ((t+1:Nat):Int)) (J3 (Hp c0 g8) O O O) O (JLm (I64 ((t+1:Nat):Int)) O (G6 (j9 _ _ (t+1) j (app1 h4 h) (by omega) ⟨(.sm O O),⟨fmQ O,ø⟩,rfl⟩))))))
   ·
    have h:=app1 c6 (Hw b9 (Hf hb))
    refine Hr (g6 (Js fun e0=>Jr fun e1=>(JLm (.mp 1123) O (JLh (.it 1124) (Z33 1124 (m:=w) O O O O Gea) O (G6 (e1 (Gq ?_)))))))
    obtain⟨i6,e2,e3,c2,h⟩:=H60 h
    refine J71 (Ha.size w) (fun x (a2:Unit)=>MInv i6 e2 (Ha.l w) x a2) (fun x a2=>[(115,.it 1124)]) (fun x a2=>[(1123,MP 171 Hg.kv I64 w),(1124,.iter (.mp 1123) (Ha.size w) x)]) () (MInv.start h hp) ⟨⟨.same O,ø⟩,⟨⟨_,O,.map⟩,⟨_,O,.iter O⟩,ø⟩,O⟩ ?_
    clear h hp
    intro x a2 b0 k6 i7
    refine Jr fun b1=>Rn O O O (Z76 (m:=w) O O O O) ?_
    intro u_ L_ hn_
    rcases hn_ with ⟨c3,z,a3,b2,rfl,rfl⟩ | ⟨e4,rfl,rfl⟩
    ·
     obtain⟨k7,h,b3,b4⟩:=b0.step a3 b2
     replace h:=Jc7 e3 h
     refine JLh (BL true) (Gv O O O) O (G6 (b1 (Js fun e5=>J72 O (Gk (e5 (Gq (Jr fun e6=>(JLh (.tup [.agg (Hg.cs z.1),I64 z.2]) (Z3e (kv:=Hg.kv) (av:=I64) (m:=w) (q:=c3) (seen:=x) (e:=z) O O O O a3) O (JLh (I64 z.2) (Gv O O O) O (JLm (I64 z.2) O (G6 (e6 (Jr fun e7=>(JLm (I64 z.2) O (JLh (BL (decide (1 < z.2))) (Gd1 O O O) O (G6 (e7 (JCc O h (fun h hb=>?_) (fun h hb=>?_)))))))))))))))))))
     ·
      refine Jr fun e8=>(JLm (BL false) O (G6 (e8 (Gs ?_))))
      obtain⟨y_,hy_,hl_⟩:=Y96 h
      exact⟨[BL false],[],ø,O,⟨⟨_,O,.conv (.same O)⟩,ø⟩,O,false,Eq.mpr (M8 hl_) (b3 y_ hy_),O⟩
     ·
      refine Gk (i7 _ _ (x++[c3]) () (b4 _ (M8 h).symm) (Gbd (M6 a3).1 b2) ⟨⟨.same O,ø⟩,⟨⟨_,O,.map⟩,⟨_,O,.iter O⟩,ø⟩,O⟩)
    ·
     obtain⟨p_,h,hp⟩:=b0.done e4
     replace h:=app1 c2 h
     refine JLh (BL false) (Gv O O O) O (G6 (b1 (Js fun k1=>G3b O (Hr (e0 (Jr fun e9=>(JLm (BL true) O (G6 (e9 (Gs (⟨[BL true],[],ø,O,⟨⟨_,O,.conv (.same O)⟩,ø⟩,O,true,Eq.mpr (M8 h) hp,O⟩)))))))))))
theorem R07 (S_:(Gj)→Option Bool) (hS_:∀ s r,S_ s=some r→∃ p:Prop,H1d s (fun r_=>r_=r)=some p∧p) (s:Gj) (r:Bool) (h:S_ s=some r):Pure En 60 [.agg (Gj.cs s)] (·=BL r):=by
 obtain⟨p,a,b⟩:=hS_ s r h
 exact(R06 s _ p a b).monoP (fun av hh=>by obtain⟨r_,rfl,ha⟩:=hh; exact ha)

def G5d (size:Int):Option (List Int):=
 bif decide (size=40) then
 (some [0])
 else
 (bif decide (size=20) then
  (some [1,2])
  else
  (some []))
theorem J36 (size:Int) (r:(List Int)) (h:G5d size=some r):Pure En 113 [U8 size] (·=Eb r):=by
 unfold G5d at h
 refine Gz [.tmp 2] Tryz.func113 O O (Jr fun a=>(JLh (Eb ([]:List Int)) (Jd 1 O O) O (G6 (a (Js fun b=>Jr fun c=>(JLm (U8 size) O (G6 (c (Gq (Jr fun d=>(JLh (BL (decide (size=40))) (Qg O O O) O (JLm (BL (decide (size=40))) O (G6 (d (JCc O h (fun h hb=>?_) (fun h hb=>?_))))))))))))))))
 ·
  refine Jr fun e=>(JLh (Eb [0]) (He (xs:=[U8 0]) O ⟨O,O,ø⟩ Gbe Q8f O O O O) O (JLm (Eb [0]) O (G6 (e (Gs (fin1 (fun r:(List Int)=>(Eb r:AV)) h))))))
 ·
  refine Jr fun f=>(JLh (BL (decide (size=20))) (Qg O O O) O (JLm (BL (decide (size=20))) O (G6 (f (JCc O h (fun h hb=>?_) (fun h hb=>?_))))))
  ·
   refine Jr fun g=>(JLh (Eb [1,2]) (He (xs:=[U8 1,U8 2]) O ⟨O,O,O,O,ø⟩ Gbe Q8f O O O O) O (JLm (Eb [1,2]) O (G6 (g (Gs (fin1 (fun r:(List Int)=>(Eb r:AV)) h))))))
  ·
   refine Gk (b (Jr fun i=>(JLh (Eb ([]:List Int)) (Jd 1 O O) O (G6 (i (Gs (fin1 (fun r:(List Int)=>(Eb r:AV)) h)))))))

def H1a (j:Gj) (k:Int) (ys_:List Slot):Option Unit:=
 each (fun e l (b:Nat) f=>
  need (decide ((max e.Tiers 0)≤9223372036854775807)) <|
  upto (fun m (c:Nat) g=>
   bnd (G5d k) fun h=>
   each (fun i n (a:Nat) d=>
    need (decide (ys_[a]? = some (Slot.mk (l:Int) (m:Int) i))) <|
    d (a+1))
   (fun(a:Nat)=>
    g a) h 0 c)
  (fun(c:Nat)=>
   f c) (max e.Tiers 0).toNat 0 b)
 (fun(b:Nat)=>
  need (decide (b=ys_.length)) (some ())) j.Columns 0 0
theorem Q2f (e:Gj) (m:Int) (ys_:List Slot) (q_:Unit) (h:H1a e m ys_=some q_):Iter En 162 [.dptr (Gj.cs e),.dptr [U8 m]] (ys_.map (fun y:Slot=>[.agg [I64 y.G3,I64 y.Tier,U8 y.Half]])):=by
 unfold H1a at h
 refine Z6e Tryz.func162 O O ?_
 intro E hE hys
 refine Yb (fun K1 b9=>Qt (Jq (u:=Ee e) hE (Ga Jc O O O) ?_ O O O O))
 refine Jq (u:=E3 e.Columns) hE (Gg Jv O O O) ?_ O O O O
 refine Rf8 hE (f:=G3.av) (xs:=e.Columns) Hz O O (fun w=>?_) O O O
 refine Jq (u:=I64 0) hE (G5 O O) ?_ O O O O
 refine Y5 ?_
 refine b9 _ _ _ (G8d ?_)
 obtain⟨b2,c0,c1,z,h⟩:=Je h
 refine R0b (fun a (n:Nat)=>each b2 c0 (List.drop a e.Columns) a n=some q_) (fun a n=>[(0,.sc (.func (.yield E.lp) #[] #[])),(2,.dptr [U8 m]),(10,E3 e.Columns),(11,Em e.Columns.length),(12,Em a)]) (fun a n=>[]) (fun a n=>n) (fun a=>e.Columns.length - a) 0 0 h ⟨(.sm O O),ø,rfl⟩ rfl ?_
 clear h
 intro a n r K2 e2
 refine Yb (fun K3 c2=>Qt (Jq (u:=BL (decide ((a:Int) < (e.Columns.length:Int)))) hE (Jn O O O) ?_ O O O O))
 refine Y5 ?_
 refine c2 _ _ _ (Yb (fun K4 c3=>Q05 O (fun hb=>?_) (fun hb=>?_)))
 ·
  have s:=Jz hb
  obtain⟨g,e1,c4,c5,h⟩:=Hv r s
  replace h:=Zm c1 h
  refine H53 (c3 _ _ _ (Yb (fun K5 c6=>G8d (Yb (fun K6 c7=>Qt (Jq (u:=Em a) hE (G5 O O) ?_ O O O O))))))
  refine Jq (u:=Ej g) hE (Hb (f:=G3.av) (xs:=e.Columns) (y:=g) O O O Hz c4 O) ?_ O O O O
  refine Jq (u:=.agg (G3.cs g)) hE (Gm Gbf O O O) ?_ O O O O
  refine Jq (u:=.ptr 1210 0) hE (Hj 1210 12 G42 O O) ?_ O O O O
  refine Jq (u:=Em a) hE (G7 O O) ?_ O O O O
  refine Ya4 (u:=.junk) hE (H7 (u:=.agg (G3.cs g)) (ds:=(G3.cs g)) H2f O O O O O O O O) ?_ O O O
  refine Y5 ?_
  refine c7 _ _ _ (Yb (fun K7 c8=>Qt (Jq (u:=.ptr 1210 3) hE (J9 H47 O O) ?_ O O O O)))
  refine Jq (u:=I64 g.Tiers) hE (J2 Gb O O O O) ?_ O O O O
  refine Jq (u:=I64 (max g.Tiers 0)) hE (Z8f O O O) ?_ O O O O
  refine Jq (u:=I64 0) hE (G5 O O) ?_ O O O O
  refine Y5 ?_
  refine c8 _ _ _ (G8d ?_)
  obtain⟨c9,h⟩:=Jf h
  obtain⟨b8,d0,d1,a0,h⟩:=J07 h
  refine R0b (fun c (l:Nat)=>upto b8 d0 ((max g.Tiers 0).toNat - c) c l=some q_) (fun c l=>[(0,.sc (.func (.yield E.lp) #[] #[])),(2,.dptr [U8 m]),(4,Em a),(10,E3 e.Columns),(11,Em e.Columns.length),(12,Em a),(19,I64 (max g.Tiers 0)),(20,Em c)]) (fun c l=>[(1210,.box 97 (G3.cs g))]) (fun c l=>l) (fun c=>(max g.Tiers 0).toNat - c) 0 n h ⟨(.sm O O),⟨fbQ O (.sm O O),ø⟩,rfl⟩ rfl ?_
  clear h
  intro c l t K8 e8
  refine Yb (fun K9 d2=>Qt (Jq (u:=BL (decide ((c:Int) < (max g.Tiers 0)))) hE (Jn O O O) ?_ O O O O))
  refine Y5 ?_
  refine d2 _ _ _ (Yb (fun e3 a1=>Q05 O (fun hb=>?_) (fun hb=>?_)))
  ·
   have v:=H9a hb
   obtain⟨e4,d3,h⟩:=H89 t v
   replace h:=Jc7 d1 h
   refine H53 (a1 _ _ _ (Yb (fun e5 a2=>G8d (Yb (fun e6 a3=>Qt (Jq (u:=Em c) hE (G5 O O) ?_ O O O O))))))
   refine Jq (u:=Em c) hE (G7 O O) ?_ O O O O
   refine Y5 ?_
   refine a3 _ _ _ (Yb (fun e7 a4=>Qt (Jq (u:=U8 m) hE (Gg Hy O O O) ?_ O O O O)))
   obtain⟨i,a5,h⟩:=Gd h
   refine Jq (u:=Eb i) hE (Gu O (J36 m i a5) Q49 ⟨O,O,ø⟩) ?_ O O O O
   refine Rf8 hE (f:=U8) (xs:=i) Gbe O O (fun a6=>?_) O O O
   refine Jq (u:=I64 0) hE (G5 O O) ?_ O O O O
   refine Y5 ?_
   refine a4 _ _ _ (G8d ?_)
   obtain⟨d4,a7,a8,q,h⟩:=Je h
   refine R0b (fun d (k:Nat)=>each d4 a7 (List.drop d i) d k=some q_) (fun d k=>[(0,.sc (.func (.yield E.lp) #[] #[])),(2,.dptr [U8 m]),(4,Em a),(6,Em c),(10,E3 e.Columns),(11,Em e.Columns.length),(12,Em a),(19,I64 (max g.Tiers 0)),(20,Em c),(24,Eb i),(25,Em i.length),(26,Em d)]) (fun d k=>[(1210,.box 97 (G3.cs g))]) (fun d k=>k) (fun d=>i.length - d) 0 l h ⟨(.sm O O),⟨fbQ O (.sm O O),ø⟩,rfl⟩ rfl ?_
   clear h
   intro d k o e9 d5
   refine Yb (fun f0 a9=>Qt (Jq (u:=BL (decide ((d:Int) < (i.length:Int)))) hE (Jn O O O) ?_ O O O O))
   refine Y5 ?_
   refine a9 _ _ _ (Yb (fun f1 b0=>Q05 O (fun hb=>?_) (fun hb=>?_)))
   ·
    have p:=Jz hb
    obtain⟨j,e0,b1,b3,h⟩:=Hv o p
    replace h:=Zm a8 h
    refine H53 (b0 _ _ _ (Yb (fun f2 b4=>G8d (Yb (fun f3 b5=>Qt (Jq (u:=.dptr [U8 j]) hE (Hb (f:=U8) (xs:=i) (y:=j) O O O Gbe b1 O) ?_ O O O O))))))
    refine Jq (u:=U8 j) hE (Gg Hy O O O) ?_ O O O O
    refine Jq (u:=U8 j) hE (G7 O O) ?_ O O O O
    refine Y5 ?_
    refine b5 _ _ _ (Yb (fun f4 b6=>Qt (Jq (u:=.sc (.func (.yield E.lp) #[] #[])) hE (G5 O O) ?_ O O O O)))
    refine Jq (u:=Em a) hE (G5 O O) ?_ O O O O
    refine Jq (u:=Em c) hE (G5 O O) ?_ O O O O
    refine Jq (u:=U8 j) hE (G5 O O) ?_ O O O O
    refine Jq (u:=.agg [Em a,Em c,U8 j]) hE (Hi (cs:=[Em a,Em c,U8 j]) [(0,1),(1,1),(2,1)] [I64 0,I64 0,U8 0] [E0,E0,.int .u8 0] H0b Ge8 (zzQ O) O O) ?_ O O O O
    obtain⟨b7,h⟩:=Jf h
    refine J90 (us:=[.agg [Em a,Em c,U8 j]]) hE O O ⟨O,O,ø⟩ (Yeb (f:=(fun y:Slot=>[.agg [I64 y.G3,I64 y.Tier,U8 y.Half]])) (x:=(Slot.mk (a:Int) (c:Int) j)) hys b7) ?_ O O O
    refine Jq (u:=BL false) hE (Yc (b:=true) O O) ?_ O O O O
    refine Y5 ?_
    refine b6 _ _ _ (Hb2 O (H53 (b4 _ _ _ (Qt (Jq (u:=I64 ((d+1:Nat):Int)) hE (J3 (Hp p a6) O O O) ?_ O O O O)))))
    refine Jq (u:=I64 ((d+1:Nat):Int)) hE (G5 O O) ?_ O O O O
    refine Y5 ?_
    exact d5 _ _ (d+1) (k+1) _ (app1 b3 h) (by omega) ⟨(.sm O O),⟨fbQ O (.sm O O),ø⟩,rfl⟩ rfl
   ·
    have h:=app1 q (Hw o (Hf hb))
    refine J8f (a2 _ _ _ (Qt (Jq (u:=I64 ((c+1:Nat):Int)) hE (J3 (Hp v (H2d c9)) O O O) ?_ O O O O)))
    refine Jq (u:=I64 ((c+1:Nat):Int)) hE (G5 O O) ?_ O O O O
    refine Y5 ?_
    exact e8 _ _ (c+1) k _ (app1 d3 h) (by omega) ⟨(.sm O O),⟨fbQ O (.sm O O),ø⟩,rfl⟩ rfl
  ·
   have h:=app1 a0 (H8a t (G7d hb))
   refine J8f (c6 _ _ _ (Qt (Jq (u:=I64 ((a+1:Nat):Int)) hE (J3 (Hp s w) O O O) ?_ O O O O)))
   refine Jq (u:=I64 ((a+1:Nat):Int)) hE (G5 O O) ?_ O O O O
   refine Y5 ?_
   exact e2 _ _ (a+1) l _ (app1 c5 h) (by omega) ⟨(.sm O O),ø,rfl⟩ rfl
 ·
  have h:=app1 z (Hw r (Hf hb))
  refine J8f (Z45 (Jf h).1)
theorem Q30 (S_:(Gj)→(Int)→Option (List Slot)) (hS_:∀ a b r,S_ a b=some r→H1a a b r=some ()) (a:Gj) (b:Int) (r:List Slot) (h:S_ a b=some r):Iter En 162 [.dptr (Gj.cs a),.dptr [U8 b]] (r.map (fun y:Slot=>[.agg [I64 y.G3,I64 y.Tier,U8 y.Half]])):=Q2f a b r () (hS_ a b r h)
end
end Go.Proofs.YtgcpimpnpcdmmaaGreat
