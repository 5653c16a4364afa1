/- Walks of functions. -/
import Derived.Test.YtmfhaflabpnaoaaGreatSortLay
import Derived.Test.YtmfhaflabpnaoaaGreatSeq
set_option maxRecDepth 100000
set_option maxHeartbeats 1000000
set_option linter.unusedVariables false
set_option linter.unusedSimpArgs false
namespace Go.Proofs.YtmfhaflabpnaoaaGreat
open Go.RowKit
noncomputable section
abbrev Ek:=Tryz.prog
structure Hi where
 n:Int
 low:Int
 high:Int
 deriving DecidableEq,Inhabited
def Hi.cs (x:Hi):List AV:=[I64 x.n,I64 x.low,I64 x.high]
def Hi.av (x:Hi):AV:=.agg x.cs
structure G1 where
 Bay:Int
 Row:Int
 Deck:Bool
 Tiers:Int
 Height:Int
 Kilos20:Int
 Kilos40:Int
 Lash:Int
 Plugs:List Int
 X:Int
 Y:Int
 Z:Int
 deriving DecidableEq,Inhabited
def G1.cs (x:G1):List AV:=[I64 x.Bay,I64 x.Row,BL x.Deck,I64 x.Tiers,I64 x.Height,I64 x.Kilos20,I64 x.Kilos40,I64 x.Lash,E1 x.Plugs,I64 x.X,I64 x.Y,I64 x.Z]
def G1.av (x:G1):AV:=.agg x.cs
abbrev Eh (x:G1):AV:=.dptr (G1.cs x)
abbrev E3:=LS 12 G1.av
structure Ga where
 Bay:Int
 Rows:List Int
 deriving DecidableEq,Inhabited
def Ga.cs (x:Ga):List AV:=[I64 x.Bay,E1 x.Rows]
def Ga.av (x:Ga):AV:=.agg x.cs
abbrev E7:=LS 2 Ga.av
structure Light where
 Kilos:Int
 X:Int
 Y:Int
 Z:Int
 deriving DecidableEq,Inhabited
def Light.cs (x:Light):List AV:=[I64 x.Kilos,I64 x.X,I64 x.Y,I64 x.Z]
structure Row where
 Draught:Int
 Kilos:Int
 Buoy:Int
 Metacentre:Int
 R84:Int
 deriving DecidableEq,Inhabited
def Row.cs (x:Row):List AV:=[I64 x.Draught,I64 x.Kilos,I64 x.Buoy,I64 x.Metacentre,I64 x.R84]
def Row.av (x:Row):AV:=.agg x.cs
abbrev E4:=LS 5 Row.av
structure Frame where
 X:Int
 Light:Int
 Share:Int
 Shear:Int
 Bend:Int
 deriving DecidableEq,Inhabited
def Frame.cs (x:Frame):List AV:=[I64 x.X,I64 x.Light,I64 x.Share,I64 x.Shear,I64 x.Bend]
def Frame.av (x:Frame):AV:=.agg x.cs
abbrev E5:=LS 5 Frame.av
structure Gr where
 Kilos:Int
 X:Int
 Y:Int
 Z:Int
 Surface:Int
 Steps:List Int
 deriving DecidableEq,Inhabited
def Gr.cs (x:Gr):List AV:=[I64 x.Kilos,I64 x.X,I64 x.Y,I64 x.Z,I64 x.Surface,E1 x.Steps]
def Gr.av (x:Gr):AV:=.agg x.cs
abbrev E6:=LS 6 Gr.av
structure G5 where
 Tolerance:Int
 Trim:Int
 List_:Int
 Stability:Int
 deriving DecidableEq,Inhabited
def G5.cs (x:G5):List AV:=[I64 x.Tolerance,I64 x.Trim,I64 x.List_,I64 x.Stability]
structure G6 where
 Columns:List G1
 Covers:List Ga
 Light:Light
 Rows:List Row
 Frames:List Frame
 Tanks:List Gr
 G5:G5
 deriving DecidableEq,Inhabited
def G6.cs (x:G6):List AV:=[E3 x.Columns,E7 x.Covers,I64 x.Light.Kilos,I64 x.Light.X,I64 x.Light.Y,I64 x.Light.Z,E4 x.Rows,E5 x.Frames,E6 x.Tanks,I64 x.G5.Tolerance,I64 x.G5.Trim,I64 x.G5.List_,I64 x.G5.Stability]
abbrev Ee (x:G6):AV:=.dptr (G6.cs x)
structure Ha where
 e0:Int
 e1:Int
 e2:Int
 deriving DecidableEq,Inhabited
def Ha.cs (x:Ha):List AV:=[I64 x.e0,I64 x.e1,I64 x.e2]
def Ha.ks (x:Ha):List Value:=[.int .i64 x.e0,.int .i64 x.e1,.int .i64 x.e2]
def Ha.kv (x:Ha):Value:=.agg x.ks.toArray
namespace XAF
theorem Y95 (a b:Ha):J03 Ek 4 136 [.int .i64 a.e0,.int .i64 a.e1,.int .i64 a.e2] [.int .i64 b.e0,.int .i64 b.e1,.int .i64 b.e2]=some (decide (a=b)):=by
 refine(show _=some ((a.e0==b.e0)&&((a.e1==b.e1)&&((a.e2==b.e2)&&true))) by kernel_rfl).trans (congrArg some ?_)
 rw [Bool.eq_iff_iff]
 simp only [Me,beq_iff_eq,Mf,Bool.and_true]
 constructor
 ·intro h; obtain⟨_,_,_⟩:=a; obtain⟨_,_,_⟩:=b; simp_all
 ·intro h; subst h; simp
theorem R59:H10 Ek 173 3=true:=by kernel_rfl
theorem H75:H10 Ek 72 12=true:=by kernel_rfl
theorem H2d:H10 Ek 74 2=true:=by kernel_rfl
theorem Q0d:Ya7 Ek 136 3 1=true:=by kernel_rfl
theorem J94:H9 Ek 135=true:=by kernel_rfl
theorem R35:H9 Ek 98=true:=by kernel_rfl
theorem Hd0:Jz Ek 173 0 0=true:=by kernel_rfl
theorem Je3:Jz Ek 173 1 1=true:=by kernel_rfl
theorem Je2:Jz Ek 173 2 2=true:=by kernel_rfl
theorem Hh:Jz Ek 32 0 0=true:=by kernel_rfl
theorem Jc:Jz Ek 32 1 1=true:=by kernel_rfl
theorem G46:Jz Ek 72 0 0=true:=by kernel_rfl
theorem G45:Jz Ek 72 1 1=true:=by kernel_rfl
theorem Hcf:Jz Ek 72 10 10=true:=by kernel_rfl
theorem Hce:Jz Ek 72 11 11=true:=by kernel_rfl
theorem Z4:Jz Ek 72 2 2=true:=by kernel_rfl
theorem G70:Jz Ek 72 3 3=true:=by kernel_rfl
theorem G44:Jz Ek 72 4 4=true:=by kernel_rfl
theorem J0b:Jz Ek 72 5 5=true:=by kernel_rfl
theorem J0a:Jz Ek 72 6 6=true:=by kernel_rfl
theorem J09:Jz Ek 72 7 7=true:=by kernel_rfl
theorem G1d:Jz Ek 72 8 8=true:=by kernel_rfl
theorem J08:Jz Ek 72 9 9=true:=by kernel_rfl
theorem G1c:Jz Ek 74 0 0=true:=by kernel_rfl
theorem Qk:Jz Ek 74 1 1=true:=by kernel_rfl
theorem Gbe:Zc Ek 135 136 3=true:=by kernel_rfl
theorem Ho:Ek.follows .mixedOrders=true:=by kernel_rfl
theorem Yk:placesOf Ek 173=some [(0,1),(1,1),(2,1)]:=by kernel_rfl
theorem Hn:Rm Ek 22=true:=by kernel_rfl
theorem Ji:Rm Ek 23=true:=by kernel_rfl
theorem Gd:Rm Ek 3=true:=by kernel_rfl
theorem Hq:Rm Ek 35=true:=by kernel_rfl
theorem Re:Rm Ek 4=true:=by kernel_rfl
theorem Qdb:Zh Ek 173 3=true:=by kernel_rfl
theorem Jdf:Zh Ek 72 12=true:=by kernel_rfl
theorem H95:Zh Ek 74 2=true:=by kernel_rfl
theorem H20:sliceB Ek 141 5 1=true:=by kernel_rfl
theorem H1f:sliceB Ek 171 173 3=true:=by kernel_rfl
theorem Hk:sliceB Ek 22 72 12=true:=by kernel_rfl
theorem J7:sliceB Ek 23 74 2=true:=by kernel_rfl
theorem Gz:sliceB Ek 35 3 1=true:=by kernel_rfl
theorem J92:(Ek.info? 136).bind (fun i=>i.zero.map Value.cells)=some (List.toArray [E0,E0,E0]):=by kernel_rfl
theorem Zz:(Ek.info? 173).bind (fun i=>i.zero.map Value.cells)=some (List.toArray [E0,E0,E0]):=by kernel_rfl
theorem H94:Yb Ek 173 3=true:=by kernel_rfl
theorem Jdd:Yb Ek 5 1=true:=by kernel_rfl
theorem Hcc:Yb Ek 72 12=true:=by kernel_rfl
theorem Gff:Yb Ek 74 2=true:=by kernel_rfl
theorem H1d:(Ek.info? 3).bind (·.zero)=some E0:=by kernel_rfl
theorem J66:Gc2 Ek 136 Ha.kv:=Gc2.of_eq Ha.ks (by kernel_rfl) (fun a b h=>by simp only [Ha.ks,List.cons.injEq,Value.int.injEq,Value.bool.injEq,Value.string.injEq,true_and,and_true] at h; obtain⟨_,_,_⟩:=a; obtain⟨_,_,_⟩:=b; simp_all) 4 (by decide) (fun a b=>Y95 a b) (fun a=>by kernel_rfl) (fun a=>by simp [Instr.sameBits,Ha.ks])
end XAF
open XAF

def G55 (l:List Hi):Option Bool:=
 each (fun a d (c:Unit) b=>
  bif ((decide (a.n < a.low))||(decide (a.high < a.n))) then
  (some false)
  else
  (b ()))
 (fun(c:Unit)=>
  some true) l 0 ()
theorem H8b (l:List Hi) (r:Bool) (h:G55 l=some r):Pure Ek 135 [LS 3 Hi.av l] (·=BL r):=by
 unfold G55 at h
 refine H3 [.tmp 2] Tryz.func135 O O (Jr fun x=>(JLm (BL false) O (G8 (x (Js fun z=>Jr fun a0=>(JLm (LS 3 Hi.av l) O (JLl H1f O O O fun a1=>(JLm (I64 0) O (G8 (a0 (Gx ?_)))))))))))
 obtain⟨a2,i,j,g,h⟩:=Jf h
 refine Hs (fun b (c:Unit)=>each a2 i (List.drop b l) b c=some r) (fun b c=>[(5,LS 3 Hi.av l),(6,Ej l.length),(7,Ej b)]) (fun b c=>[]) (fun b=>l.length - b) 0 () h ⟨(.sm O O),G,O⟩ ?_
 clear h
 intro b c d a5 a3
 refine Jr fun k=>(JLh (BL (decide ((b:Int) < (l.length:Int)))) (Jq O O O) O (G8 (k (Js fun m=>Gp O (fun hb=>?_) (fun hb=>?_)))))
 ·
  have e:=Q4 hb
  obtain⟨a,a4,o,p,h⟩:=Hz d e
  replace h:=Zi j h
  refine Gn (m (Js fun q=>Gx (Jr fun s=>(JLh (.dptr [I64 a.n,I64 a.low,I64 a.high]) (H0 (f:=Hi.av) (xs:=l) (y:=a) O O O H1f o O) O (JLh (.agg [I64 a.n,I64 a.low,I64 a.high]) (Gt R59 O O O) O (JLh (.ptr 1152 0) (Jn 1152 3 H94 O O) O (J9 (u:=.junk) (He (u:=.agg [I64 a.n,I64 a.low,I64 a.high]) (ds:=[I64 a.n,I64 a.low,I64 a.high]) Qdb O O O O O O O O) (G8 (s (fzQ [(4,.dptr [I64 a.n,I64 a.low,I64 a.high]),(5,LS 3 Hi.av l),(6,Ej l.length),(7,Ej b)] [] 1152 rfl rfl rfl G rfl ?_))))))))))
  refine Jr fun t=>(JLh (.dptr [I64 a.n,I64 a.low,I64 a.high]) (Gb Hd0 O O O) O (JLh (I64 a.n) (Ge Gd O O O) O (JLh (.dptr [I64 a.low,I64 a.high]) (Gb Je3 O O O) O (JLh (I64 a.low) (Ge Gd O O O) O (JLh (BL (decide (a.n < a.low))) (Jq O O O) O (JLm (BL (decide (a.n < a.low))) O (JLo (.dptr [I64 a.n,I64 a.low,I64 a.high]) [] O .scf G (fun hc=>Gb Hd0 O O O) O (JLo (I64 a.n) [17] O .scf ⟨Ua,G⟩ (fun hc=>Ge Gd O O O) O (JLo (.dptr [I64 a.high]) [] O .scf G (fun hc=>Gb Je2 O O O) O (JLo (I64 a.high) [19] O .scf ⟨Ua,G⟩ (fun hc=>Ge Gd O O O) O (JLo (BL (decide (a.high < a.n))) [18,20] O .scf ⟨Ua,Ua,G⟩ (fun hc=>G08 O O O) O (JLh (BL ((decide (a.n < a.low))||(decide (a.high < a.n)))) (Ya O O O O) O (G8 (t ?_))))))))))))))
  refine JCc O h ?_ ?_<;>intro h hb
  ·
   refine Jr fun v=>(JLm (BL false) O (G8 (v (Gs (fin1 BL h)))))
  ·
   refine Gn (q (G2 (JLh (I64 ((b+1:Nat):Int)) (Jo (Hw e a1) O O O) O (JLm (I64 ((b+1:Nat):Int)) O (G8 (a3 _ _ (b+1) () (app1 p h) (by omega) ⟨(.sm O O),G,rfl⟩))))))
 ·
  have h:=app1 g (J0 d (Hd hb))
  refine Hy (z (Jr fun w=>(JLm (BL true) O (G8 (w (Gs (fin1 BL h)))))))

def G99 (c:G1):Option Bool:=
 each (fun d a (f:Unit) e=>
  wrp (c.Tiers - 1) fun g=>
  bnd (G55 [(Hi.mk d 0 g)]) fun b=>
  bnd (bif ((!(!b))&&(decide (0 < (a:Int)))) then some (IntKind.i64.wrap ((a:Int) - 1)) else some 0) fun h=>
  bnd (bif ((!(!b))&&(decide (0 < (a:Int)))) then Qr c.Plugs h some else some default) fun i=>
  bif ((!b)||((decide (0 < (a:Int)))&&(decide (d≤i)))) then
  (some false)
  else
  (e ()))
 (fun(f:Unit)=>
  bnd (G55 [(Hi.mk c.Bay 0 39),(Hi.mk c.Row 0 30),(Hi.mk c.Tiers 1 10),(Hi.mk c.Height 0 40000),(Hi.mk c.Kilos20 0 500000000),(Hi.mk c.Kilos40 0 500000000),(Hi.mk c.Lash 0 1000000000000),(Hi.mk c.X (-500000) 500000),(Hi.mk c.Y (-500000) 500000),(Hi.mk c.Z (-500000) 500000)]) fun j=>
  some j) c.Plugs 0 ()
abbrev Em (c:G1):List AV:=[I64 c.Tiers,I64 c.Height,I64 c.Kilos20,I64 c.Kilos40,I64 c.Lash,E1 c.Plugs,I64 c.X,I64 c.Y,I64 c.Z]
theorem Q4a (c:G1) (r:Bool) (h:G99 c=some r):Pure Ek 98 [.agg (G1.cs c)] (·=BL r):=by
 unfold G99 at h
 refine H3 [.tmp 2] Tryz.func98 O O (Jr fun a7=>(JLh (.ptr 1127 0) (Ju (cs:=(G1.cs c)) 1127 O O O O O) O (JLm (BL false) O (G8 (a7 (Gu [(1,Eh c)] [] 1127 rfl rfl rfl G rfl (by exact⟨.ptr,G⟩) (Jr fun a8=>(JLm (.fn 135 []) O (G8 (a8 (Js fun a9=>Jr fun b0=>(JLh (.dptr [E1 c.Plugs,I64 c.X,I64 c.Y,I64 c.Z]) (Gb G1d O O O) O (JLh (E1 c.Plugs) (Ge Hq O O O) O (JLl Gz O O O fun b1=>(JLm (I64 0) O (G8 (b0 (Gx ?_))))))))))))))))))
 obtain⟨b2,o,p,n,h⟩:=Jf h
 refine Hs (fun a (j:Unit)=>each b2 o (List.drop a c.Plugs) a j=some r) (fun a j=>[(1,Eh c),(3,.fn 135 []),(7,E1 c.Plugs),(8,Ej c.Plugs.length),(9,Ej a)]) (fun a j=>[]) (fun a=>c.Plugs.length - a) 0 () h ⟨(.sm O O),G,rfl⟩ ?_
 clear h
 intro a j k b6 b3
 refine Jr fun q=>(JLh (BL (decide ((a:Int) < (c.Plugs.length:Int)))) (Jq O O O) O (G8 (q (Js fun s=>Gp O (fun hb=>?_) (fun hb=>?_)))))
 ·
  have l:=Q4 hb
  obtain⟨d,b5,t,v,h⟩:=Hz k l
  replace h:=Zi p h
  refine Gn (s (Js fun w=>Gx (Jr fun x=>(JLm (Ej a) O (JLh (.dptr [I64 d]) (H0 (f:=I64) (xs:=c.Plugs) (y:=d) O O O Gz t O) O (JLh (I64 d) (Ge Gd O O O) O (JLm (Ej a) O (JLm (I64 d) O (G8 (x (Jr fun z=>(JLm (.fn 135 []) O (JLm (I64 d) O (JLh (.dptr (Em c)) (Gb G70 O O O) O (JLh (I64 c.Tiers) (Ge Gd O O O) O ?_)))))))))))))))
  obtain⟨e,a0,h⟩:=Qa4 h
  refine JLh (I64 e) (H90 a0 O O O) O (JLh (.agg [I64 d,I64 0,I64 e]) (Hj (cs:=[I64 d,I64 0,I64 e]) [(0,1),(1,1),(2,1)] [I64 0,I64 0,I64 0] [E0,E0,E0] Yk Zz (zzQ O) O O) O (JLh (LS 3 Hi.av [(Hi.mk d 0 e)]) (J2 (xs:=[.agg [I64 d,I64 0,I64 e]]) O ⟨O,O,G⟩ H1f H94 O O O O) O ?_))
  obtain⟨g,a1,h⟩:=Gj h
  refine JLh (BL g) (G56 (args:=[LS 3 Hi.av [(Hi.mk d 0 e)]]) (caps:=[]) O O (H8b [(Hi.mk d 0 e)] g a1) J94 ⟨O,O,G⟩ O) O (JLh (BL (!g)) (R2 (b:=g) O O) O (JLm (BL (!g)) O (JLo (Ej a) [] O .scf G (fun hc=>G7 O O) O (JLo (BL (decide (0 < (a:Int)))) [24] O .scf ⟨Ua,G⟩ (fun hc=>G08 O O O) O (JLo (BL (decide (0 < (a:Int)))) [25] O .scf ⟨Ua,G⟩ (fun hc=>G7 O O) O (JLo (I64 d) [] O .optt G (fun hc=>G7 O O) O (JLo (.dptr [E1 c.Plugs,I64 c.X,I64 c.Y,I64 c.Z]) [] O .optt G (fun hc=>Gb G1d O O O) O (JLo (E1 c.Plugs) [28] O .optt ⟨Ua,G⟩ (fun hc=>Ge Hq O O O) O (JLo (Ej a) [] O .optt G (fun hc=>G7 O O) O ?_)))))))))
  obtain⟨b4,a2,h⟩:=Gj h
  refine JLo (I64 b4) [30] O .optt ⟨Ua,G⟩ (fun hc=>H90 (M2 (H1 hc a2)) O O O) O ?_
  obtain⟨i,a3,h⟩:=Gj h
  refine JLo (.dptr [I64 i]) [29,31] O .optt ⟨Ua,Ua,G⟩ (fun hc=>(match R1 (H1 hc a3) with | ⟨_,hm_,hy_⟩=>H0 (f:=I64) (xs:=c.Plugs) (y:=i) O O O Gz hy_ hm_)) O (JLo (I64 i) [32] O .optt ⟨Ua,G⟩ (fun hc=>Ge Gd O O O) O (JLo (BL (decide (d≤i))) [27,33] O .optt ⟨Ua,Ua,G⟩ (fun hc=>H61 O O O) O (Gf (u:=BL ((decide (0 < (a:Int)))&&(decide (d≤i)))) [(26,BL (decide (0 < (a:Int)))),(34,_)] O O O .scf ⟨.all id,.part,G⟩ (fun hc=>Jv O O O O) ?_)))
  refine JLh (BL ((!g)||((decide (0 < (a:Int)))&&(decide (d≤i))))) (Ya O O O O) O (G8 (z (JCc O h (fun h hb=>?_) (fun h hb=>?_))))
  ·
   refine Jr fun a4=>(JLm (BL false) O (G8 (a4 (Gs (fin1 BL h)))))
  ·
   refine Gn (w (G2 (JLh (I64 ((a+1:Nat):Int)) (Jo (Hw l b1) O O O) O (JLm (I64 ((a+1:Nat):Int)) O (G8 (b3 _ _ (a+1) () (app1 v h) (by omega) ⟨(.sm O O),G,rfl⟩))))))
 ·
  have h:=app1 n (J0 k (Hd hb))
  refine Hy (a9 ?_)
  refine Jr fun a5=>(JLm (.fn 135 []) O (JLh (Eh c) (Gb G46 O O O) O (JLh (I64 c.Bay) (Ge Gd O O O) O (JLh (.agg [I64 c.Bay,I64 0,I64 39]) (Hj (cs:=[I64 c.Bay,I64 0,I64 39]) [(0,1),(1,1),(2,1)] [I64 0,I64 0,I64 0] [E0,E0,E0] Yk Zz (zzQ O) O O) O (JLh (.dptr [I64 c.Row,BL c.Deck,I64 c.Tiers,I64 c.Height,I64 c.Kilos20,I64 c.Kilos40,I64 c.Lash,E1 c.Plugs,I64 c.X,I64 c.Y,I64 c.Z]) (Gb G45 O O O) O (JLh (I64 c.Row) (Ge Gd O O O) O (JLh (.agg [I64 c.Row,I64 0,I64 30]) (Hj (cs:=[I64 c.Row,I64 0,I64 30]) [(0,1),(1,1),(2,1)] [I64 0,I64 0,I64 0] [E0,E0,E0] Yk Zz (zzQ O) O O) O (JLh (.dptr (Em c)) (Gb G70 O O O) O (JLh (I64 c.Tiers) (Ge Gd O O O) O (JLh (.agg [I64 c.Tiers,I64 1,I64 10]) (Hj (cs:=[I64 c.Tiers,I64 1,I64 10]) [(0,1),(1,1),(2,1)] [I64 0,I64 0,I64 0] [E0,E0,E0] Yk Zz (zzQ O) O O) O (JLh (.dptr [I64 c.Height,I64 c.Kilos20,I64 c.Kilos40,I64 c.Lash,E1 c.Plugs,I64 c.X,I64 c.Y,I64 c.Z]) (Gb G44 O O O) O (JLh (I64 c.Height) (Ge Gd O O O) O (JLh (.agg [I64 c.Height,I64 0,I64 40000]) (Hj (cs:=[I64 c.Height,I64 0,I64 40000]) [(0,1),(1,1),(2,1)] [I64 0,I64 0,I64 0] [E0,E0,E0] Yk Zz (zzQ O) O O) O ?_)))))))))))))
  refine JLh (.dptr [I64 c.Kilos20,I64 c.Kilos40,I64 c.Lash,E1 c.Plugs,I64 c.X,I64 c.Y,I64 c.Z]) (Gb J0b O O O) O (JLh (I64 c.Kilos20) (Ge Gd O O O) O (JLh (.agg [I64 c.Kilos20,I64 0,I64 500000000]) (Hj (cs:=[I64 c.Kilos20,I64 0,I64 500000000]) [(0,1),(1,1),(2,1)] [I64 0,I64 0,I64 0] [E0,E0,E0] Yk Zz (zzQ O) O O) O (JLh (.dptr [I64 c.Kilos40,I64 c.Lash,E1 c.Plugs,I64 c.X,I64 c.Y,I64 c.Z]) (Gb J0a O O O) O (JLh (I64 c.Kilos40) (Ge Gd O O O) O (JLh (.agg [I64 c.Kilos40,I64 0,I64 500000000]) (Hj (cs:=[I64 c.Kilos40,I64 0,I64 500000000]) [(0,1),(1,1),(2,1)] [I64 0,I64 0,I64 0] [E0,E0,E0] Yk Zz (zzQ O) O O) O (JLh (.dptr [I64 c.Lash,E1 c.Plugs,I64 c.X,I64 c.Y,I64 c.Z]) (Gb J09 O O O) O (JLh (I64 c.Lash) (Ge Gd O O O) O (JLh (.agg [I64 c.Lash,I64 0,I64 1000000000000]) (Hj (cs:=[I64 c.Lash,I64 0,I64 1000000000000]) [(0,1),(1,1),(2,1)] [I64 0,I64 0,I64 0] [E0,E0,E0] Yk Zz (zzQ O) O O) O (JLh (.dptr [I64 c.X,I64 c.Y,I64 c.Z]) (Gb J08 O O O) O (JLh (I64 c.X) (Ge Gd O O O) O (JLh (.agg [I64 c.X,I64 (-500000),I64 500000]) (Hj (cs:=[I64 c.X,I64 (-500000),I64 500000]) [(0,1),(1,1),(2,1)] [I64 0,I64 0,I64 0] [E0,E0,E0] Yk Zz (zzQ O) O O) O (JLh (.dptr [I64 c.Y,I64 c.Z]) (Gb Hcf O O O) O (JLh (I64 c.Y) (Ge Gd O O O) O ?_)))))))))))))
  refine JLh (.agg [I64 c.Y,I64 (-500000),I64 500000]) (Hj (cs:=[I64 c.Y,I64 (-500000),I64 500000]) [(0,1),(1,1),(2,1)] [I64 0,I64 0,I64 0] [E0,E0,E0] Yk Zz (zzQ O) O O) O (JLh (.dptr [I64 c.Z]) (Gb Hce O O O) O (JLh (I64 c.Z) (Ge Gd O O O) O (JLh (.agg [I64 c.Z,I64 (-500000),I64 500000]) (Hj (cs:=[I64 c.Z,I64 (-500000),I64 500000]) [(0,1),(1,1),(2,1)] [I64 0,I64 0,I64 0] [E0,E0,E0] Yk Zz (zzQ O) O O) O (JLh (LS 3 Hi.av [(Hi.mk c.Bay 0 39),(Hi.mk c.Row 0 30),(Hi.mk c.Tiers 1 10),(Hi.mk c.Height 0 40000),(Hi.mk c.Kilos20 0 500000000),(Hi.mk c.Kilos40 0 500000000),(Hi.mk c.Lash 0 1000000000000),(Hi.mk c.X (-500000) 500000),(Hi.mk c.Y (-500000) 500000),(Hi.mk c.Z (-500000) 500000)]) (J2 (xs:=[.agg [I64 c.Bay,I64 0,I64 39],.agg [I64 c.Row,I64 0,I64 30],.agg [I64 c.Tiers,I64 1,I64 10],.agg [I64 c.Height,I64 0,I64 40000],.agg [I64 c.Kilos20,I64 0,I64 500000000],.agg [I64 c.Kilos40,I64 0,I64 500000000],.agg [I64 c.Lash,I64 0,I64 1000000000000],.agg [I64 c.X,I64 (-500000),I64 500000],.agg [I64 c.Y,I64 (-500000),I64 500000],.agg [I64 c.Z,I64 (-500000),I64 500000]]) O ⟨O,O,O,O,O,O,O,O,O,O,O,O,O,O,O,O,O,O,O,O,G⟩ H1f H94 O O O O) O ?_))))
  obtain⟨m,a6,h⟩:=Gj h
  refine JLh (BL m) (G56 (args:=[LS 3 Hi.av [(Hi.mk c.Bay 0 39),(Hi.mk c.Row 0 30),(Hi.mk c.Tiers 1 10),(Hi.mk c.Height 0 40000),(Hi.mk c.Kilos20 0 500000000),(Hi.mk c.Kilos40 0 500000000),(Hi.mk c.Lash 0 1000000000000),(Hi.mk c.X (-500000) 500000),(Hi.mk c.Y (-500000) 500000),(Hi.mk c.Z (-500000) 500000)]]) (caps:=[]) O O (H8b [(Hi.mk c.Bay 0 39),(Hi.mk c.Row 0 30),(Hi.mk c.Tiers 1 10),(Hi.mk c.Height 0 40000),(Hi.mk c.Kilos20 0 500000000),(Hi.mk c.Kilos40 0 500000000),(Hi.mk c.Lash 0 1000000000000),(Hi.mk c.X (-500000) 500000),(Hi.mk c.Y (-500000) 500000),(Hi.mk c.Z (-500000) 500000)] m a6) J94 ⟨O,O,G⟩ O) O (JLm (BL m) O (G8 (a5 (Gs (fin1 BL h)))))

def Gda (s:G6) (Rp:Bool→Prop):Option Prop:=
 bif (((decide ((s.Columns.length:Int) < 1))||(decide (200 < (s.Columns.length:Int))))||(decide (40 < (s.Covers.length:Int)))) then
 (some (Rp false))
 else
 (each (fun c y (f:(Q0 Ha Int)) m=>
   jp (fun g=>
    bif c.Deck then
    (g 1)
    else
    (g 0)) fun(k:Int)=>
   bnd (some (Q0.get f (Ha.mk c.Bay c.Row k) 0)) fun v=>
   chk (v+1) fun w=>
   bnd (G99 c) fun x=>
   bif (!x) then
   (some (Rp false))
   else
   (m (Q0.put f (Ha.mk c.Bay c.Row k) w)))
  (fun(f:(Q0 Ha Int))=>
   each (fun b z (h:(Q0 Ha Int)) n=>
    bif (((decide (b.Bay < 0))||(decide (40≤b.Bay)))||(decide ((b.Rows.length:Int)=0))) then
    (some (Rp false))
    else
    (each (fun a d (e:(Q0 Ha Int)) i=>
      bnd (bif ((!((decide (a < 0))||(decide (30 < a))))&&(decide (0 < (d:Int)))) then chk ((d:Int) - 1) some else some 0) fun o=>
      bnd (bif ((!((decide (a < 0))||(decide (30 < a))))&&(decide (0 < (d:Int)))) then Qr b.Rows o some else some default) fun p=>
      bif (((decide (a < 0))||(decide (30 < a)))||((decide (0 < (d:Int)))&&(decide (a≤p)))) then
      (some (Rp false))
      else
      (bnd (some (Q0.get e (Ha.mk b.Bay a 2) 0)) fun q=>
       chk (q+1) fun r=>
       i (Q0.put e (Ha.mk b.Bay a 2) r)))
     (fun(e:(Q0 Ha Int))=>
      n e) b.Rows 0 h))
   (fun(h:(Q0 Ha Int))=>
    Hbc (fun(t:Ha×Int) (u:Unit) j=>
     bif decide (1 < t.2) then
     (lft (some (Rp false)))
     else
     (j ()))
    (fun(u:Unit)=>
     some (Rp true)) (Q0.l h) ()) s.Covers 0 f) s.Columns 0 (Q0.empty:Q0 Ha Int))
def H2a (s:G6):Option Bool:=
 bif (((decide ((s.Columns.length:Int) < 1))||(decide (200 < (s.Columns.length:Int))))||(decide (40 < (s.Covers.length:Int)))) then
 (some (id false))
 else
 (each (fun c y (f:(Q0 Ha Int)) m=>
   jp (fun g=>
    bif c.Deck then
    (g 1)
    else
    (g 0)) fun(k:Int)=>
   bnd (some (Q0.get f (Ha.mk c.Bay c.Row k) 0)) fun v=>
   chk (v+1) fun w=>
   bnd (G99 c) fun x=>
   bif (!x) then
   (some (id false))
   else
   (m (Q0.put f (Ha.mk c.Bay c.Row k) w)))
  (fun(f:(Q0 Ha Int))=>
   each (fun b z (h:(Q0 Ha Int)) n=>
    bif (((decide (b.Bay < 0))||(decide (40≤b.Bay)))||(decide ((b.Rows.length:Int)=0))) then
    (some (id false))
    else
    (each (fun a d (e:(Q0 Ha Int)) i=>
      bnd (bif ((!((decide (a < 0))||(decide (30 < a))))&&(decide (0 < (d:Int)))) then chk ((d:Int) - 1) some else some 0) fun o=>
      bnd (bif ((!((decide (a < 0))||(decide (30 < a))))&&(decide (0 < (d:Int)))) then Qr b.Rows o some else some default) fun p=>
      bif (((decide (a < 0))||(decide (30 < a)))||((decide (0 < (d:Int)))&&(decide (a≤p)))) then
      (some (id false))
      else
      (bnd (some (Q0.get e (Ha.mk b.Bay a 2) 0)) fun q=>
       chk (q+1) fun r=>
       i (Q0.put e (Ha.mk b.Bay a 2) r)))
     (fun(e:(Q0 Ha Int))=>
      n e) b.Rows 0 h))
   (fun(h:(Q0 Ha Int))=>
    H00 (fun(t:Ha×Int) (u:Unit) j=>
     bif decide (1 < t.2) then
     (lft (some (id false)))
     else
     (j ()))
    (fun(u:Unit)=>
     some (id true)) (Q0.l h) ()) s.Covers 0 f) s.Columns 0 (Q0.empty:Q0 Ha Int))
abbrev En (s:G6):List AV:=[E7 s.Covers,I64 s.Light.Kilos,I64 s.Light.X,I64 s.Light.Y,I64 s.Light.Z,E4 s.Rows,E5 s.Frames,E6 s.Tanks,I64 s.G5.Tolerance,I64 s.G5.Trim,I64 s.G5.List_,I64 s.G5.Stability]
theorem Q4b (s:G6) (Rp:Bool→Prop) (p:Prop) (h:Gda s Rp=some p) (hp:p):Pure Ek 51 [.agg (G6.cs s)] (fun av=>∃ r,Rp r∧av=BL r):=by
 unfold Gda at h
 refine H3 [.tmp 2] Tryz.func51 O O (Jr fun i8=>(JLh (.ptr 1075 0) (Ju (cs:=(G6.cs s)) 1075 O O O O O) O (JLm (BL false) O (G8 (i8 (Gu [(1,Ee s)] [] 1075 rfl rfl rfl G rfl (by exact⟨.ptr,G⟩) (Js fun i9=>?_)))))))
 refine Jr fun j0=>(JLh (Ee s) (Gb Hh O O O) O (JLh (E3 s.Columns) (Ge Hn O O O) O (JLl Hk O O O fun k2=>(JLh (BL (decide ((s.Columns.length:Int) < 1))) (Jq O O O) O (JLm (BL (decide ((s.Columns.length:Int) < 1))) O (JLo (Ee s) [] O .scf G (fun hc=>Gb Hh O O O) O (JLo (E3 s.Columns) [18] O .scf ⟨Ua,G⟩ (fun hc=>Ge Hn O O O) O (JLo (Ej s.Columns.length) [19] O .scf ⟨Ua,G⟩ (fun hc=>G2d (f:=G1.av) (xs:=s.Columns) Hk O O) O (JLo (BL (decide (200 < (s.Columns.length:Int)))) [20] O .scf ⟨Ua,G⟩ (fun hc=>G08 O O O) O (JLh (BL ((decide ((s.Columns.length:Int) < 1))||(decide (200 < (s.Columns.length:Int))))) (Ya O O O O) O (JLm (BL ((decide ((s.Columns.length:Int) < 1))||(decide (200 < (s.Columns.length:Int))))) O (JLo (.dptr (En s)) [] O .scf G (fun hc=>Gb Jc O O O) O (JLo (E7 s.Covers) [24] O .scf ⟨Ua,G⟩ (fun hc=>Ge Ji O O O) O ?_)))))))))))))
 refine JLo (Ej s.Covers.length) [25] O .scf ⟨Ua,G⟩ (fun hc=>G2d (f:=Ga.av) (xs:=s.Covers) J7 O O) O (JLo (BL (decide (40 < (s.Covers.length:Int)))) [26] O .scf ⟨Ua,G⟩ (fun hc=>G08 O O O) O (JLh (BL (((decide ((s.Columns.length:Int) < 1))||(decide (200 < (s.Columns.length:Int))))||(decide (40 < (s.Covers.length:Int))))) (Ya O O O O) O (G8 (j0 (JCc O h (fun h hb=>?_) (fun h hb=>?_))))))
 ·
  refine Jr fun j1=>(JLm (BL false) O (G8 (j1 (Gs (⟨[BL false],[],G,O,⟨⟨_,O,.conv (.same O)⟩,G⟩,O,false,Eq.mpr (M2 h) hp,O⟩)))))
 ·
  refine Gn (i9 (Jr fun j2=>(JLh (.mp 1078) (R91 1078 Ha.kv I64 O O) O (JLm (.mp 1078) O (G8 (j2 (Js fun j3=>Jr fun j4=>(JLh (Ee s) (Gb Hh O O O) O (JLh (E3 s.Columns) (Ge Hn O O O) O (JLl Hk O O O fun f0=>(JLm (I64 0) O (G8 (j4 (Gx ?_))))))))))))))
  obtain⟨j5,f1,f2,c4,h⟩:=Jf h
  refine Hs (fun o (k:(Q0 Ha Int))=>each j5 f1 (List.drop o s.Columns) o k=some p) (fun o k=>[(1,Ee s),(3,.mp 1078),(31,E3 s.Columns),(32,Ej s.Columns.length),(33,Ej o)]) (fun o k=>[(1078,MP 135 Ha.kv I64 k)]) (fun o=>s.Columns.length - o) 0 (Q0.empty:Q0 Ha Int) h ⟨(.sm O O),⟨fmQ O,G⟩,rfl⟩ ?_
  clear h
  intro o k b5 k8 j6
  refine Jr fun f3=>(JLh (BL (decide ((o:Int) < (s.Columns.length:Int)))) (Jq O O O) O (G8 (f3 (Js fun f4=>Gp O (fun hb=>?_) (fun hb=>?_)))))
  ·
   have b6:=Q4 hb
   obtain⟨g,k3,f5,f6,h⟩:=Hz b5 b6
   replace h:=Zi f2 h
   refine Gn (f4 (Js fun f7=>Gx (Jr fun f8=>(JLh (Eh g) (H0 (f:=G1.av) (xs:=s.Columns) (y:=g) O O O Hk f5 O) O (JLh (.agg (G1.cs g)) (Gt H75 O O O) O (JLh (.ptr 1076 0) (Jn 1076 12 Hcc O O) O (J9 (u:=.junk) (He (u:=.agg (G1.cs g)) (ds:=(G1.cs g)) Jdf O O O O O O O O) (G8 (f8 ?_)))))))))
   refine fzQ [(1,Ee s),(3,.mp 1078),(5,Eh g),(31,E3 s.Columns),(32,Ej s.Columns.length),(33,Ej o)] [(1078,MP 135 Ha.kv I64 k)] 1076 rfl rfl rfl ⟨fmQ O,G⟩ rfl (Jr fun f9=>(JLm (I64 0) O (G8 (f9 ?_))))
   obtain⟨g0,c5,h⟩:=Ga2 h
   refine G4d (fun n:Int=>g0 n=some p) (fun n=>[(1,Ee s),(3,.mp 1078),(5,Eh g),(6,I64 n),(31,E3 s.Columns),(32,Ej s.Columns.length),(33,Ej o)]) (fun n=>[(1078,MP 135 Ha.kv I64 k)]) (fun Kj74 ej74=>?_) ?_
   ·
    refine Jr fun g1=>(JLh (.dptr ((G1.cs g).drop 2)) (Gb Z4 O O O) O (JLh (BL g.Deck) (Ge Re O O O) O (G8 (g1 (JCc O h (fun h hb=>?_) (fun h hb=>?_))))))
    ·
     refine G2 (JLm (I64 1) O (G8 (ej74 _ _ 1 h ⟨(.sm O O),⟨fmQ O,G⟩,rfl⟩)))
    ·
     refine Gn (ej74 _ _ 0 h ⟨(.sm O O),⟨fmQ O,G⟩,rfl⟩)
   ·intro n h
    replace h:=app1 c5 h
    refine Js fun g2=>Qw (l':=[(1,Ee s),(3,.mp 1078),(5,Eh g),(6,I64 n),(31,E3 s.Columns),(32,Ej s.Columns.length),(33,Ej o)]) (L':=[(1078,MP 135 Ha.kv I64 k)]) ⟨(.sm O O),⟨fmQ O,G⟩,rfl⟩ ?_
    obtain⟨j7,b7,h⟩:=Gj h
    obtain⟨a4,b8,h⟩:=Zw h
    refine J4 [9,11] [0,0,0,0,0,0,0,0,0,0,1,0] [0,0,0,0,0,0,0,1,1,0,1,0] [[(1078,MP 135 Ha.kv I64 k)],((1078,MI 135 Ha.kv I64 k (Ha.mk g.Bay g.Row n) 0)::[(1078,MP 135 Ha.kv I64 k)]),((1078,MP 135 Ha.kv I64 (Q0.put k (Ha.mk g.Bay g.Row n) a4))::((1078,MI 135 Ha.kv I64 k (Ha.mk g.Bay g.Row n) 0)::[(1078,MP 135 Ha.kv I64 k)]))] Ho (by kernel_rfl) rfl rfl ?_
    refine Gc (u:=.mp 1078) O O ⟨Gi (G7 O O) O,G⟩ (Gc (u:=Eh g) O O ⟨Gi (Gb G46 O O O) O,G⟩ (Gc (u:=I64 g.Bay) O O ⟨Gi (Ge Gd O O O) O,G⟩ (Gc (u:=.dptr ((G1.cs g).drop 1)) O O ⟨Gi (Gb G45 O O O) O,G⟩ (Gc (u:=I64 g.Row) O O ⟨Gi (Ge Gd O O O) O,G⟩ (Gc (u:=I64 n) O O ⟨Gi (G7 O O) O,G⟩ (Gc (u:=.agg [I64 g.Bay,I64 g.Row,I64 n]) O O ⟨Gi (Q5d (cs:=[I64 g.Bay,I64 g.Row,I64 n]) [E0,E0,E0] Q0d J92 O O) O,G⟩ (Gc (u:=I64 j7) O O ⟨Gi (((M2 b7) ▸ Q59 (av:=I64) (m:=k) (a:=(Ha.mk g.Bay g.Row n)) 0 E0 O O O O J66 Gbe H1d O)) O,Gi (((M2 b7) ▸ Q58 (av:=I64) (m:=k) (a:=(Ha.mk g.Bay g.Row n)) 0 E0 O O O O J66 Gbe H1d O)) O,G⟩ (Gc (u:=I64 a4) O O ⟨Gi (Jo b8 O O O) O,Gi (Jo b8 O O O) O,G⟩ (D_w (u:=.tup [.junk,I64 (G36 (Q0.l k) (Ha.mk g.Bay g.Row n):Int)]) O O O O (Gi (Jba (m:=k) (a:=(Ha.mk g.Bay g.Row n)) 0 E0 O O O O J66 Gbe H1d O) O) (Gc (u:=I64 (G36 (Q0.l k) (Ha.mk g.Bay g.Row n):Int)) O O ⟨Gi (H4 O O O) O,G⟩ (Gf2 (u:=.junk) O O O O (Gi (J16 (m:=k) (a:=(Ha.mk g.Bay g.Row n)) (v:=a4) 0 O O O O O O) O) (Qp ?_))))))))))))
    refine g2 (Jr fun g3=>(JLh (.agg (G1.cs g)) (Gt H75 O O O) O ?_))
    obtain⟨a5,g4,h⟩:=Gj h
    refine JLh (BL a5) (Gw O (Q4a g a5 g4) R35 ⟨O,O,G⟩) O (JLh (BL (!a5)) (R2 (b:=a5) O O) O (G8 (g3 (JCc O h (fun h hb=>?_) (fun h hb=>?_)))))
    ·
     refine Jr fun g5=>(JLm (BL false) O (G8 (g5 (Gs (⟨[BL false],[],G,O,⟨⟨_,O,.conv (.same O)⟩,G⟩,O,false,Eq.mpr (M2 h) hp,O⟩)))))
    ·
     refine Gn (f7 (G2 (JLh (I64 ((o+1:Nat):Int)) (Jo (Hw b6 f0) O O O) O (JLm (I64 ((o+1:Nat):Int)) O (G8 (j6 _ _ (o+1) (Q0.put k (Ha.mk g.Bay g.Row n) a4) (app1 f6 h) (by omega) ⟨(.sm O O),⟨fmQ O,G⟩,rfl⟩))))))
  ·
   have h:=app1 c4 (J0 b5 (Hd hb))
   refine Hy (j3 (Js fun g6=>Jr fun g7=>(JLh (.dptr (En s)) (Gb Jc O O O) O (JLh (E7 s.Covers) (Ge Ji O O O) O (JLl J7 O O O fun g8=>(JLm (I64 0) O (G8 (g7 (Gx ?_)))))))))
   obtain⟨j8,g9,h0,c6,h⟩:=Jf h
   refine Hs (fun t (w:(Q0 Ha Int))=>each j8 g9 (List.drop t s.Covers) t w=some p) (fun t w=>[(3,.mp 1078),(55,E7 s.Covers),(56,Ej s.Covers.length),(57,Ej t)]) (fun t w=>[(1078,MP 135 Ha.kv I64 w)]) (fun t=>s.Covers.length - t) 0 k h ⟨(.sm O O),⟨fmQ O,G⟩,rfl⟩ ?_
   clear h
   intro t w b9 k9 j9
   refine Jr fun h1=>(JLh (BL (decide ((t:Int) < (s.Covers.length:Int)))) (Jq O O O) O (G8 (h1 (Js fun h2=>Gp O (fun hb=>?_) (fun hb=>?_)))))
   ·
    have c0:=Q4 hb
    obtain⟨c,k4,h3,h4,h⟩:=Hz b9 c0
    replace h:=Zi h0 h
    refine Gn (h2 (Js fun h5=>Gx (Jr fun h6=>(JLh (.dptr [I64 c.Bay,E1 c.Rows]) (H0 (f:=Ga.av) (xs:=s.Covers) (y:=c) O O O J7 h3 O) O (JLh (.agg [I64 c.Bay,E1 c.Rows]) (Gt H2d O O O) O (JLh (.ptr 1077 0) (Jn 1077 2 Gff O O) O (J9 (u:=.junk) (He (u:=.agg [I64 c.Bay,E1 c.Rows]) (ds:=[I64 c.Bay,E1 c.Rows]) H95 O O O O O O O O) (G8 (h6 (fzQ [(3,.mp 1078),(8,.dptr [I64 c.Bay,E1 c.Rows]),(55,E7 s.Covers),(56,Ej s.Covers.length),(57,Ej t)] [(1078,MP 135 Ha.kv I64 w)] 1077 rfl rfl rfl ⟨fmQ O,G⟩ rfl (Js fun h7=>?_)))))))))))
    refine Jr fun h8=>(JLh (.dptr [I64 c.Bay,E1 c.Rows]) (Gb G1c O O O) O (JLh (I64 c.Bay) (Ge Gd O O O) O (JLh (BL (decide (c.Bay < 0))) (Jq O O O) O (JLm (BL (decide (c.Bay < 0))) O (JLo (.dptr [I64 c.Bay,E1 c.Rows]) [] O .scf G (fun hc=>Gb G1c O O O) O (JLo (I64 c.Bay) [65] O .scf ⟨Ua,G⟩ (fun hc=>Ge Gd O O O) O (JLo (BL (decide (40≤c.Bay))) [66] O .scf ⟨Ua,G⟩ (fun hc=>G4b O O O) O (JLh (BL ((decide (c.Bay < 0))||(decide (40≤c.Bay)))) (Ya O O O O) O (JLm (BL ((decide (c.Bay < 0))||(decide (40≤c.Bay)))) O (JLo (.dptr [E1 c.Rows]) [] O .scf G (fun hc=>Gb Qk O O O) O (JLo (E1 c.Rows) [70] O .scf ⟨Ua,G⟩ (fun hc=>Ge Hq O O O) O (JLo (Ej c.Rows.length) [71] O .scf ⟨Ua,G⟩ (fun hc=>G2d (f:=I64) (xs:=c.Rows) Gz O O) O (JLo (BL (decide ((c.Rows.length:Int)=0))) [72] O .scf ⟨Ua,G⟩ (fun hc=>Jk O O O) O ?_)))))))))))))
    refine JLh (BL (((decide (c.Bay < 0))||(decide (40≤c.Bay)))||(decide ((c.Rows.length:Int)=0)))) (Ya O O O O) O (G8 (h8 (JCc O h (fun h hb=>?_) (fun h hb=>?_))))
    ·
     refine Jr fun h9=>(JLm (BL false) O (G8 (h9 (Gs (⟨[BL false],[],G,O,⟨⟨_,O,.conv (.same O)⟩,G⟩,O,false,Eq.mpr (M2 h) hp,O⟩)))))
    ·
     refine Gn (h7 (Jr fun i0=>(JLh (.dptr [E1 c.Rows]) (Gb Qk O O O) O (JLh (E1 c.Rows) (Ge Hq O O O) O (JLl Gz O O O fun i1=>(JLm (I64 0) O (G8 (i0 (Gx ?_)))))))))
     obtain⟨i2,c7,c8,c1,h⟩:=Jf h
     refine Hs (fun i (j:(Q0 Ha Int))=>each i2 c7 (List.drop i c.Rows) i j=some p) (fun i j=>[(3,.mp 1078),(8,.dptr [I64 c.Bay,E1 c.Rows]),(55,E7 s.Covers),(56,Ej s.Covers.length),(57,Ej t),(76,E1 c.Rows),(77,Ej c.Rows.length),(78,Ej i)]) (fun i j=>[(1078,MP 135 Ha.kv I64 j)]) (fun i=>c.Rows.length - i) 0 w h ⟨(.sm O O),⟨fmQ O,G⟩,rfl⟩ ?_
     clear h
     intro i j a6 k5 i3
     refine Jr fun c9=>(JLh (BL (decide ((i:Int) < (c.Rows.length:Int)))) (Jq O O O) O (G8 (c9 (Js fun d0=>Gp O (fun hb=>?_) (fun hb=>?_)))))
     ·
      have a7:=Q4 hb
      obtain⟨d,k0,d1,d2,h⟩:=Hz a6 a7
      replace h:=Zi c8 h
      refine Gn (d0 (Js fun d3=>Gx (Jr fun d4=>(JLm (Ej i) O (JLh (.dptr [I64 d]) (H0 (f:=I64) (xs:=c.Rows) (y:=d) O O O Gz d1 O) O (JLh (I64 d) (Ge Gd O O O) O (JLm (Ej i) O (JLm (I64 d) O (G8 (d4 (Js fun d5=>?_)))))))))))
      refine Jr fun d6=>(JLm (I64 d) O (JLh (BL (decide (d < 0))) (Jq O O O) O (JLm (BL (decide (d < 0))) O (JLo (I64 d) [] O .scf G (fun hc=>G7 O O) O (JLo (BL (decide (30 < d))) [86] O .scf ⟨Ua,G⟩ (fun hc=>G08 O O O) O (JLh (BL ((decide (d < 0))||(decide (30 < d)))) (Ya O O O O) O (JLm (BL ((decide (d < 0))||(decide (30 < d)))) O (JLo (Ej i) [] O .scf G (fun hc=>G7 O O) O (JLo (BL (decide (0 < (i:Int)))) [90] O .scf ⟨Ua,G⟩ (fun hc=>G08 O O O) O (JLo (BL (decide (0 < (i:Int)))) [91] O .scf ⟨Ua,G⟩ (fun hc=>G7 O O) O (JLo (I64 d) [] O .optt G (fun hc=>G7 O O) O (JLo (.dptr [E1 c.Rows]) [] O .optt G (fun hc=>Gb Qk O O O) O (JLo (E1 c.Rows) [94] O .optt ⟨Ua,G⟩ (fun hc=>Ge Hq O O O) O ?_)))))))))))))
      refine JLo (Ej i) [] O .optt G (fun hc=>G7 O O) O ?_
      obtain⟨i4,d7,h⟩:=Gj h
      refine JLo (I64 i4) [96] O .optt ⟨Ua,G⟩ (fun hc=>H90 (G65 (H1 hc d7)) O O O) O ?_
      obtain⟨a0,d8,h⟩:=Gj h
      refine JLo (.dptr [I64 a0]) [95,97] O .optt ⟨Ua,Ua,G⟩ (fun hc=>(match R1 (H1 hc d8) with | ⟨_,hm_,hy_⟩=>H0 (f:=I64) (xs:=c.Rows) (y:=a0) O O O Gz hy_ hm_)) O (JLo (I64 a0) [98] O .optt ⟨Ua,G⟩ (fun hc=>Ge Gd O O O) O (JLo (BL (decide (d≤a0))) [93,99] O .optt ⟨Ua,Ua,G⟩ (fun hc=>H61 O O O) O (Gf (u:=BL ((decide (0 < (i:Int)))&&(decide (d≤a0)))) [(92,BL (decide (0 < (i:Int)))),(100,_)] O O O .scf ⟨.all id,.part,G⟩ (fun hc=>Jv O O O O) ?_)))
      refine JLh (BL (((decide (d < 0))||(decide (30 < d)))||((decide (0 < (i:Int)))&&(decide (d≤a0))))) (Ya O O O O) O (G8 (d6 (JCc O h (fun h hb=>?_) (fun h hb=>?_))))
      ·
       refine Jr fun d9=>(JLm (BL false) O (G8 (d9 (Gs (⟨[BL false],[],G,O,⟨⟨_,O,.conv (.same O)⟩,G⟩,O,false,Eq.mpr (M2 h) hp,O⟩)))))
      ·
       refine Gn (d5 (Qw (l':=[(3,.mp 1078),(8,.dptr [I64 c.Bay,E1 c.Rows]),(10,I64 d),(55,E7 s.Covers),(56,Ej s.Covers.length),(57,Ej t),(76,E1 c.Rows),(77,Ej c.Rows.length),(78,Ej i)]) (L':=[(1078,MP 135 Ha.kv I64 j)]) ⟨(.sm O O),⟨fmQ O,G⟩,rfl⟩ ?_))
       obtain⟨i5,a8,h⟩:=Gj h
       obtain⟨a1,a9,h⟩:=Zw h
       refine J4 [7,9] [0,0,0,0,0,0,0,0,1,0] [0,0,0,0,0,1,1,0,1,0] [[(1078,MP 135 Ha.kv I64 j)],((1078,MI 135 Ha.kv I64 j (Ha.mk c.Bay d 2) 0)::[(1078,MP 135 Ha.kv I64 j)]),((1078,MP 135 Ha.kv I64 (Q0.put j (Ha.mk c.Bay d 2) a1))::((1078,MI 135 Ha.kv I64 j (Ha.mk c.Bay d 2) 0)::[(1078,MP 135 Ha.kv I64 j)]))] Ho (by kernel_rfl) rfl rfl ?_
       refine Gc (u:=.mp 1078) O O ⟨Gi (G7 O O) O,G⟩ (Gc (u:=.dptr [I64 c.Bay,E1 c.Rows]) O O ⟨Gi (Gb G1c O O O) O,G⟩ (Gc (u:=I64 c.Bay) O O ⟨Gi (Ge Gd O O O) O,G⟩ (Gc (u:=I64 d) O O ⟨Gi (G7 O O) O,G⟩ (Gc (u:=.agg [I64 c.Bay,I64 d,I64 2]) O O ⟨Gi (Q5d (cs:=[I64 c.Bay,I64 d,I64 2]) [E0,E0,E0] Q0d J92 O O) O,G⟩ (Gc (u:=I64 i5) O O ⟨Gi (((M2 a8) ▸ Q59 (av:=I64) (m:=j) (a:=(Ha.mk c.Bay d 2)) 0 E0 O O O O J66 Gbe H1d O)) O,Gi (((M2 a8) ▸ Q58 (av:=I64) (m:=j) (a:=(Ha.mk c.Bay d 2)) 0 E0 O O O O J66 Gbe H1d O)) O,G⟩ (Gc (u:=I64 a1) O O ⟨Gi (Jo a9 O O O) O,Gi (Jo a9 O O O) O,G⟩ (D_w (u:=.tup [.junk,I64 (G36 (Q0.l j) (Ha.mk c.Bay d 2):Int)]) O O O O (Gi (Jba (m:=j) (a:=(Ha.mk c.Bay d 2)) 0 E0 O O O O J66 Gbe H1d O) O) (Gc (u:=I64 (G36 (Q0.l j) (Ha.mk c.Bay d 2):Int)) O O ⟨Gi (H4 O O O) O,G⟩ (Gf2 (u:=.junk) O O O O (Gi (J16 (m:=j) (a:=(Ha.mk c.Bay d 2)) (v:=a1) 0 O O O O O O) O) (Qp ?_))))))))))
       refine d3 (G2 (JLh (I64 ((i+1:Nat):Int)) (Jo (Hw a7 i1) O O O) O (JLm (I64 ((i+1:Nat):Int)) O (G8 (i3 _ _ (i+1) (Q0.put j (Ha.mk c.Bay d 2) a1) (app1 d2 h) (by omega) ⟨(.sm O O),⟨fmQ O,G⟩,rfl⟩)))))
     ·
      have h:=app1 c1 (J0 a6 (Hd hb))
      refine Hy (h5 (G2 (JLh (I64 ((t+1:Nat):Int)) (Jo (Hw c0 g8) O O O) O (JLm (I64 ((t+1:Nat):Int)) O (G8 (j9 _ _ (t+1) j (app1 h4 h) (by omega) ⟨(.sm O O),⟨fmQ O,G⟩,rfl⟩))))))
   ·
    have h:=app1 c6 (J0 b9 (Hd hb))
    refine Hy (g6 (Js fun e0=>Jr fun e1=>(JLm (.mp 1078) O (JLh (.it 1079) (Y3a 1079 (m:=w) O O O O Gbe) O (G8 (e1 (Gx ?_)))))))
    obtain⟨i6,e2,e3,c2,h⟩:=H05 h
    refine He7 (Q0.size w) (fun x (a2:Unit)=>MInv i6 e2 (Q0.l w) x a2) (fun x a2=>[(115,.it 1079)]) (fun x a2=>[(1078,MP 135 Ha.kv I64 w),(1079,.iter (.mp 1078) (Q0.size w) x)]) () (MInv.start h hp) ⟨⟨.same O,G⟩,⟨⟨_,O,.map⟩,⟨_,O,.iter O⟩,G⟩,O⟩ ?_
    clear h hp
    intro x a2 b0 k6 i7
    refine Jr fun b1=>G18 O O O (Y76 (m:=w) O O O O) ?_
    intro u_ L_ hn_
    rcases hn_ with ⟨c3,z,a3,b2,rfl,rfl⟩ | ⟨e4,rfl,rfl⟩
    ·
     obtain⟨k7,h,b3,b4⟩:=b0.step a3 b2
     replace h:=Jbd e3 h
     refine JLh (BL true) (H4 O O O) O (G8 (b1 (Js fun e5=>He8 O (Gn (e5 (Gx (Jr fun e6=>(JLh (.tup [.agg (Ha.cs z.1),I64 z.2]) (Y44 (kv:=Ha.kv) (av:=I64) (m:=w) (q:=c3) (seen:=x) (e:=z) O O O O a3) O (JLh (I64 z.2) (H4 O O O) O (JLm (I64 z.2) O (G8 (e6 (Jr fun e7=>(JLm (I64 z.2) O (JLh (BL (decide (1 < z.2))) (G08 O O O) O (G8 (e7 (JCc O h (fun h hb=>?_) (fun h hb=>?_)))))))))))))))))))
     ·
      refine Jr fun e8=>(JLm (BL false) O (G8 (e8 (Gs ?_))))
      obtain⟨y_,hy_,hl_⟩:=Rab h
      exact⟨[BL false],[],G,O,⟨⟨_,O,.conv (.same O)⟩,G⟩,O,false,Eq.mpr (M2 hl_) (b3 y_ hy_),O⟩
     ·
      refine Gn (i7 _ _ (x++[c3]) () (b4 _ (M2 h).symm) (G90 (M0 a3).1 b2) ⟨⟨.same O,G⟩,⟨⟨_,O,.map⟩,⟨_,O,.iter O⟩,G⟩,O⟩)
    ·
     obtain⟨p_,h,hp⟩:=b0.done e4
     replace h:=app1 c2 h
     refine JLh (BL false) (H4 O O O) O (G8 (b1 (Js fun k1=>G42 O (Hy (e0 (Jr fun e9=>(JLm (BL true) O (G8 (e9 (Gs (⟨[BL true],[],G,O,⟨⟨_,O,.conv (.same O)⟩,G⟩,O,true,Eq.mpr (M2 h) hp,O⟩)))))))))))
theorem Q4c (S_:(G6)→Option Bool) (hS_:∀ s r,S_ s=some r→∃ p:Prop,Gda s (fun r_=>r_=r)=some p∧p) (s:G6) (r:Bool) (h:S_ s=some r):Pure Ek 51 [.agg (G6.cs s)] (·=BL r):=by
 obtain⟨p,a,b⟩:=hS_ s r h
 exact(Q4b s _ p a b).monoP (fun av hh=>by obtain⟨r_,rfl,ha⟩:=hh; exact ha)

def Gb0 (size:Int):Option (List Int):=
 bif decide (size=40) then
 (some [0])
 else
 (bif decide (size=20) then
  (some [1,2])
  else
  (some []))
theorem Jbf (size:Int) (r:(List Int)) (h:Gb0 size=some r):Pure Ek 102 [U8 size] (·=Eb r):=by
 unfold Gb0 at h
 refine H3 [.tmp 2] Tryz.func102 O O (Jr fun a=>(JLh (Eb ([]:List Int)) (Jb 1 O O) O (G8 (a (Js fun b=>Jr fun c=>(JLm (U8 size) O (G8 (c (Gx (Jr fun d=>(JLh (BL (decide (size=40))) (Jk O O O) O (JLm (BL (decide (size=40))) O (G8 (d (JCc O h (fun h hb=>?_) (fun h hb=>?_))))))))))))))))
 ·
  refine Jr fun e=>(JLh (Eb [0]) (J2 (xs:=[U8 0]) O ⟨O,O,G⟩ H20 Jdd O O O O) O (JLm (Eb [0]) O (G8 (e (Gs (fin1 (fun r:(List Int)=>(Eb r:AV)) h))))))
 ·
  refine Jr fun f=>(JLh (BL (decide (size=20))) (Jk O O O) O (JLm (BL (decide (size=20))) O (G8 (f (JCc O h (fun h hb=>?_) (fun h hb=>?_))))))
  ·
   refine Jr fun g=>(JLh (Eb [1,2]) (J2 (xs:=[U8 1,U8 2]) O ⟨O,O,O,O,G⟩ H20 Jdd O O O O) O (JLm (Eb [1,2]) O (G8 (g (Gs (fin1 (fun r:(List Int)=>(Eb r:AV)) h))))))
  ·
   refine Gn (b (Jr fun i=>(JLh (Eb ([]:List Int)) (Jb 1 O O) O (G8 (i (Gs (fin1 (fun r:(List Int)=>(Eb r:AV)) h)))))))
end
end Go.Proofs.YtmfhaflabpnaoaaGreat
